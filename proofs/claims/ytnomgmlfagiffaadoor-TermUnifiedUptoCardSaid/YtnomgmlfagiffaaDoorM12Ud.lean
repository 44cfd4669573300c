/- GUnify; PureUl; GUnified: texts of this claim, laid together. -/
import Derived.Test.YtnomgmlfagiffaaDoorM9Ud
import Derived.Test.YtnomgmlfagiffaaDoorM6Ud
import Derived.Test.YtnomgmlfagiffaaDoorM7Ud
import Derived.WalkMore
import Derived.Test.YtnomgmlfagiffaaDoorM10Ud
import Derived.Test.YtnomgmlfagiffaaDoorM11Ud
import Derived.Test.YtnomgmlfagiffaaDoorM8Ud
/- The walk of term.Unify. -/
set_option linter.unusedVariables false
set_option linter.unusedSimpArgs false
namespace Go.Proofs.YtnomgmlfagiffaaDoor.T
open Go.RowKit Go.Maps Go.Proofs.YtnomgmlfagiffaaDoorW.PrintWords Go.Proofs.YtnomgmlfagiffaaDoorW.PrintLast
attribute [local go_sem high] eqA23
/-- What the walk carries. -/
structure UInv (w W : World) (b n : Nat) (D : DataW Tm) (C : Cl) (p q : List Tm) (Ax : Option Addr) (cx : Nat) (Ay : Option Addr) (cy : Nat) : Prop where
  below : Below w.heap.size w W
  m : W.ownsMap Tryd.prog 23 RT b n D
  cls : ClsD D C
  inv : InvC C
  left : Kd.R k23 23 W w.heap.size (fun k => k ≠ b) (.slice Ax p.length cx) p
  right : Kd.R k23 23 W w.heap.size (fun k => k ≠ b) (.slice Ay q.length cy) q
theorem UInv.up {w W W' : World} {b n : Nat} {D : DataW Tm} {C : Cl} {p q : List Tm} {Ax Ay : Option Addr} {cx cy : Nat} (h : UInv w W b n D C p q Ax cx Ay cy) (hb : Below W.heap.size W W') : UInv w W' b n D C p q Ax cx Ay cy :=
  ⟨below_step h.below hb, mapT_below h.m hb, h.cls, h.inv, Kd.R_below h.left hb, Kd.R_below h.right hb⟩
theorem UInv.turn {w W W' : World} {b n n' : Nat} {D D' : DataW Tm} {C C' : Cl} {p q : List Tm} {Ax Ay : Option Addr} {cx cy : Nat} (h : UInv w W b n D C p q Ax cx Ay cy) (hw : w.heap.size ≤ b) (hg : W.grownBy W' (some b)) (hm : W'.ownsMap Tryd.prog 23 RT b n' D') (hC : ClsD D' C') (hI : InvC C') : UInv w W' b n' D' C' p q Ax cx Ay cy :=
  ⟨h.below.grown hg h.below.size (fun k hk => by cases hk; exact hw), hm, hC, hI, Kd.R_grown h.left hg (fun k hk e => hk (by injection e)), Kd.R_grown h.right hg (fun k hk e => hk (by injection e))⟩
theorem unify_none {n0 n1 : ByteArray} {p q : List Tm} {x y : Tm} (hn : n0.toList = n1.toList) (hl : p.length = q.length) (h : linkAll (x :: p) (y :: q) (fun _ => none) = none) : unifyL n0 p n1 q x y = ([], false) := by
  unfold unifyL
  rw [if_neg (fun h => h.elim (fun h => h hn) (fun h => h hl)), h]
theorem unify_by {n0 n1 : ByteArray} {p q : List Tm} {x y : Tm} {C : Cl} (hn : n0.toList = n1.toList) (hl : p.length = q.length) (h : linkAll (x :: p) (y :: q) (fun _ => none) = some C) (hb : byAll [x, y] C = none) : unifyL n0 p n1 q x y = ([], false) := by
  unfold unifyL
  rw [if_neg (fun h => h.elim (fun h => h hn) (fun h => h hl)), h]
  simp only
  rw [hb]
theorem unify_some {n0 n1 : ByteArray} {p q : List Tm} {x y : Tm} {C C' : Cl} (hn : n0.toList = n1.toList) (hl : p.length = q.length) (h : linkAll (x :: p) (y :: q) (fun _ => none) = some C) (hb : byAll [x, y] C = some C') : unifyL n0 p n1 q x y = (finU ((x :: p) ++ (y :: q)) C' [], true) := by
  unfold unifyL
  rw [if_neg (fun h => h.elim (fun h => h hn) (fun h => h hl)), h]
  simp only
  rw [hb]
theorem InvC.nil : InvC (fun _ => none) := ⟨fun _ _ h => (by cases h), fun _ _ h => (by cases h)⟩
theorem byAll_step {l : List Tm} {j : Nat} (h : j < l.length) (C : Cl) : byAll (l.drop j) C = if isVar l[j] && (!isVar (topF C l[j]).1 && !isPrin (topF C l[j]).1) then none else byAll (l.drop (j + 1)) (topF C l[j]).2 := by
  rw [List.drop_eq_getElem_cons h]
  rfl
/-- A round of the second loop: the list it goes over, its two rooms. -/
structure TInv (w W : World) (b n : Nat) (D : DataW Tm) (C : Cl) (p q : List Tm) (Ax : Option Addr) (cx : Nat) (Ay : Option Addr) (cy : Nat) (L : List Tm) (Al : Option Addr) (cl g11 g12 : Nat) (t u : Tm) : Prop where
  iv : UInv w W b n D C p q Ax cx Ay cy
  l : Kd.R k23 23 W w.heap.size (fun k => k ≠ b) (.slice Al L.length cl) L
  k11 : W.heap[g11]? = some (.cells #[.int .i64 t.f0, .int .i64 t.f1, .string t.f2] 23 (0, 0))
  k12 : W.heap[g12]? = some (.cells #[.int .i64 u.f0, .int .i64 u.f1, .string u.f2] 23 (0, 0))
theorem TInv.up {w W W' : World} {b n : Nat} {D : DataW Tm} {C : Cl} {p q : List Tm} {Ax Ay : Option Addr} {cx cy : Nat} {L : List Tm} {Al : Option Addr} {cl g11 g12 : Nat} {t u : Tm} (h : TInv w W b n D C p q Ax cx Ay cy L Al cl g11 g12 t u) (hb : Below W.heap.size W W') : TInv w W' b n D C p q Ax cx Ay cy L Al cl g11 g12 t u :=
  ⟨h.iv.up hb, Kd.R_below h.l hb, blk_below h.k11 hb, blk_below h.k12 hb⟩
/-- The third loop: the list of all, the answer's map. -/
structure VInv (w W : World) (b n : Nat) (D : DataW Tm) (C : Cl) (b' n2 : Nat) (m : List Bd) (L : List Tm) (Al : Option Addr) (cl : Nat) : Prop where
  below : Below w.heap.size w W
  mc : W.ownsMap Tryd.prog 23 RT b n D
  cls : ClsD D C
  inv : InvC C
  mm : W.ownsMap Tryd.prog 3 RT b' n2 (mapD m)
  ris : Rising m
  l : Kd.R k23 23 W w.heap.size (fun k => k ≠ b ∧ k ≠ b') (.slice Al L.length cl) L
theorem VInv.up {w W W' : World} {b n : Nat} {D : DataW Tm} {C : Cl} {b' n2 : Nat} {m : List Bd} {L : List Tm} {Al : Option Addr} {cl : Nat} (h : VInv w W b n D C b' n2 m L Al cl) (hb : Below W.heap.size W W') : VInv w W' b n D C b' n2 m L Al cl :=
  ⟨below_step h.below hb, mapT_below h.mc hb, h.cls, h.inv, map_below h.mm hb, h.ris, Kd.R_below h.l hb⟩
theorem VInv.turn {w W W' : World} {b n n' : Nat} {D D' : DataW Tm} {C C' : Cl} {b' n2 : Nat} {m : List Bd} {L : List Tm} {Al : Option Addr} {cl : Nat} (h : VInv w W b n D C b' n2 m L Al cl) (hw : w.heap.size ≤ b) (hbb : b ≠ b') (hg : W.grownBy W' (some b)) (hm : W'.ownsMap Tryd.prog 23 RT b n' D') (hC : ClsD D' C') (hI : InvC C') : VInv w W' b n' D' C' b' n2 m L Al cl :=
  ⟨h.below.grown hg h.below.size (fun k hk => by cases hk; exact hw), hm, hC, hI, h.mm.kept hg (fun e => hbb (by injection e with e; exact e.symm)), h.ris, Kd.R_grown h.l hg (fun k hk e => hk.1 (by injection e))⟩
theorem VInv.put {w W W' : World} {b n : Nat} {D : DataW Tm} {C : Cl} {b' n2 : Nat} {m : List Bd} {L : List Tm} {Al : Option Addr} {cl : Nat} {v : Int} {t : Tm} (h : VInv w W b n D C b' n2 m L Al cl) (hm : W'.ownsMap Tryd.prog 3 RT b' (n2 + 1) (mapD (putM v t m))) (hg : W.grownBy W' (some b')) (hw : w.heap.size ≤ b') (hbb : b ≠ b') : VInv w W' b n D C b' (n2 + 1) (putM v t m) L Al cl :=
  ⟨h.below.grown hg h.below.size (fun k hk => by cases hk; exact hw), h.mc.kept hg (fun e => hbb (by injection e)), h.cls, h.inv, hm, putM_rising h.ris, Kd.R_grown h.l hg (fun k hk e => hk.2 (by injection e))⟩
theorem VInv.made {w W W' : World} {b n : Nat} {D : DataW Tm} {C : Cl} {p q : List Tm} {Ax Ay : Option Addr} {cx cy : Nat} {L : List Tm} {Al : Option Addr} {cl : Nat} (h : UInv w W b n D C p q Ax cx Ay cy)
    (hl : Kd.R k23 23 W' w.heap.size (fun k => k ≠ b ∧ k ≠ W.heap.size) (.slice Al L.length cl) L) (hb : Below w.heap.size w W') (hg : (W.alloc (.map #[] 0)).grownBy W' (Value.slice Ax p.length cx).ownBlock) : VInv w W' b n D C W.heap.size 0 [] L Al cl := by
  have hB := Kd.R_bound h.left
  refine ⟨hb, (h.m.alloc _).kept hg (fun e => (hB.1 b e.symm).1 rfl), h.cls, h.inv, (World.ownsMap_made W Tryd.prog 3 RT).kept hg (fun e => ?_), List.Pairwise.nil, hl⟩
  have := (hB.1 _ e.symm).2.2.1
  omega
/-- A round of the third loop: its two rooms. -/
structure WInv (w W : World) (b n : Nat) (D : DataW Tm) (C : Cl) (b' n2 : Nat) (m : List Bd) (L : List Tm) (Al : Option Addr) (cl g15 g16 : Nat) (t u : Tm) : Prop where
  iv : VInv w W b n D C b' n2 m L Al cl
  k15 : W.heap[g15]? = some (.cells #[.int .i64 t.f0, .int .i64 t.f1, .string t.f2] 23 (0, 0))
  k16 : W.heap[g16]? = some (.cells #[.int .i64 u.f0, .int .i64 u.f1, .string u.f2] 23 (0, 0))
theorem WInv.up {w W W' : World} {b n : Nat} {D : DataW Tm} {C : Cl} {b' n2 : Nat} {m : List Bd} {L : List Tm} {Al : Option Addr} {cl g15 g16 : Nat} {t u : Tm} (h : WInv w W b n D C b' n2 m L Al cl g15 g16 t u) (hb : Below W.heap.size W W') : WInv w W' b n D C b' n2 m L Al cl g15 g16 t u :=
  ⟨h.iv.up hb, blk_below h.k15 hb, blk_below h.k16 hb⟩
theorem linkAll_step {p q : List Tm} {j : Nat} (h : j < p.length) (h2 : j < q.length) (C : Cl) : linkAll (p.drop j) (q.drop j) C = if (linkF C p[j] q[j]).1 then linkAll (p.drop (j + 1)) (q.drop (j + 1)) (linkF C p[j] q[j]).2 else none := by
  rw [List.drop_eq_getElem_cons h, List.drop_eq_getElem_cons h2]
  rfl
theorem finU_step {l : List Tm} {j : Nat} (h : j < l.length) (C : Cl) (m : List Bd) : finU (l.drop j) C m = finU (l.drop (j + 1)) (topF C l[j]).2 (if isVar l[j] && !eqT (topF C l[j]).1 l[j] then putM l[j].f1 (topF C l[j]).1 m else m) := by
  rw [List.drop_eq_getElem_cons h]
  rfl
set_option maxHeartbeats 8000000 in
set_option maxRecDepth 100000 in
theorem unify_go (x y : Tm) (n0 n1 : ByteArray) (A0 : Option Addr) (c0 : Nat) (p : List Tm) (A1 : Option Addr) (c1 : Nat) (q : List Tm) (w : World)
    (hr0 : Kd.C k23 w A0 p.length p) (hc0 : p.length ≤ c0) (hr1 : Kd.C k23 w A1 q.length q) (hc1 : q.length ≤ c1)
    (hx : okT x = true) (hy : okT y = true) (hp : p.all okT = true) (hq : q.all okT = true) (lp : p.length < smallN) (lq : q.length < smallN) (hn : (n0.toList == n1.toList) = true) (hl : p.length = q.length) :
    Calls Tryd.prog 29 #[.agg #[.int .i64 x.f0, .int .i64 x.f1, .string x.f2, .string n0, .slice A0 p.length c0], .agg #[.int .i64 y.f0, .int .i64 y.f1, .string y.f2, .string n1, .slice A1 q.length c1]] w fun e w' => ∃ v0_ : Value, e = .returned (.tuple #[v0_, .bool (unifyL n0 p n1 q x y).2]) ∧ Kd.R k44 44 w' w.heap.size (fun _ => True) v0_ (unifyL n0 p n1 q x y).1 ∧ Below w.heap.size w w' := by
  have hu26 := Tryd.underlying26
  have hu23 := Tryd.underlying23
  have hmm := @run_makeMap Tryd.prog
  have HX : Aside0 ((Kd.C k23 w A0 p.length p ∧ p.length ≤ c0) ∧ (Kd.C k23 w A1 q.length q ∧ q.length ≤ c1)) := ⟨⟨hr0, hc0⟩, hr1, hc1⟩
  have HOK : Aside0 (okT x = true ∧ okT y = true ∧ p.all okT = true ∧ q.all okT = true ∧ p.length < smallN ∧ q.length < smallN) := ⟨hx, hy, hp, hq, lp, lq⟩
  have HL := Aside0.mk hl
  have HNM := Aside0.mk (show n0.toList = n1.toList by simpa using hn)
  have hle : ((p.length : Int) == (q.length : Int)) = true := by simp [hl]
  have hln : ((p.length : Int) != (q.length : Int)) = false := by simp [hl]
  have hnn : (n0.toList != n1.toList) = false := by simpa using hn
  clear hr0 hc0 hr1 hc1 hx hy hp hq lp lq hl
  go_enter Tryd.func29, Tryd.ntmps29
  go_wp2_with (first
    | ((with_reducible refine gate_dst (N := 2) rfl ?_); refine box_event ?hg (N := 2) ?hd (cs := #[.int .i64 x.f0, .int .i64 x.f1, .string x.f2, .string n0, .slice A0 p.length c0]) (t := 26) ?hr ?_; (case hd => rfl); (case hg => rfl); (case hr => first | (go_simp; done) | (go_simp; rfl)); intro b2 hb2 w1 hbox hb; have K2 := Aside0.mk hbox; have HB1 := Aside0.mk hb; clear hb2 hbox hb)
    | ((with_reducible refine gate_dst (N := 3) rfl ?_); refine box_event ?hg (N := 3) ?hd (cs := #[.int .i64 y.f0, .int .i64 y.f1, .string y.f2, .string n1, .slice A1 q.length c1]) (t := 26) ?hr ?_; (case hd => rfl); (case hg => rfl); (case hr => first | (go_simp; done) | (go_simp; rfl)); intro b3 hb3 w2 hbox hb; have K22 := Aside0.mk (blk_below K2.out hb); have K32 := Aside0.mk hbox; have HB2 := Aside0.mk (below_step HB1.out hb); clear hb3 hbox hb K2 HB1; have p0 := (blk_cell K22.out 0).trans rfl; have p1 := (blk_cell K22.out 1).trans rfl; have p2 := (blk_cell K22.out 2).trans rfl; have p3 := (blk_cell K22.out 3).trans rfl; have p4 := (blk_cell K22.out 4).trans rfl; have q0 := (blk_cell K32.out 0).trans rfl; have q1 := (blk_cell K32.out 1).trans rfl; have q2 := (blk_cell K32.out 2).trans rfl; have q3 := (blk_cell K32.out 3).trans rfl; have q4 := (blk_cell K32.out 4).trans rfl)
    | go_in)
  (try go_wp2)
  have GB : Aside0 (w.heap.size ≤ w2.heap.size) := ⟨HB2.out.size⟩
  have M0 := World.ownsMap_made w2 Tryd.prog 23 RT
  have B0 := below_alloc HB2.out (Obj.map #[] 0)
  have K20 := blk_alloc K22.out (Obj.map #[] 0)
  have K30 := blk_alloc K32.out (Obj.map #[] 0)
  have NK2 := Aside0.mk (Nat.ne_of_lt (blk_lt K22.out))
  have NK3 := Aside0.mk (Nat.ne_of_lt (blk_lt K32.out))
  clear p0 p1 p2 p3 p4 q0 q1 q2 q3 q4 K22 K32 HB2
  generalize w2.alloc (Obj.map #[] 0) = w3 at M0 B0 K20 K30 ⊢
  generalize w2.heap.size = b at *
  replace M0 : Aside0 (w3.drew.ownsMap Tryd.prog 23 RT b 0 (.map [])) := ⟨M0⟩
  replace B0 : Aside0 (Below w.heap.size w w3.drew) := ⟨B0.drew⟩
  replace K20 : Aside0 (w3.drew.heap[b2]? = some (.cells #[.int .i64 x.f0, .int .i64 x.f1, .string x.f2, .string n0, .slice A0 p.length c0] 26 (0, 0))) := ⟨K20⟩
  replace K30 : Aside0 (w3.drew.heap[b3]? = some (.cells #[.int .i64 y.f0, .int .i64 y.f1, .string y.f2, .string n1, .slice A1 q.length c1] 26 (0, 0))) := ⟨K30⟩
  refine start_ (n := 6) (S := fun w' => w'.cell? ⟨b2, 0, none⟩ = some (.int .i64 x.f0) ∧ w'.cell? ⟨b2, 1, none⟩ = some (.int .i64 x.f1) ∧ w'.cell? ⟨b2, 2, none⟩ = some (.string x.f2) ∧ w'.cell? ⟨b2, 3, none⟩ = some (.string n0) ∧ w'.cell? ⟨b2, 4, none⟩ = some (.slice A0 p.length c0) ∧ w'.cell? ⟨b3, 0, none⟩ = some (.int .i64 y.f0) ∧ w'.cell? ⟨b3, 1, none⟩ = some (.int .i64 y.f1) ∧ w'.cell? ⟨b3, 2, none⟩ = some (.string y.f2) ∧ w'.cell? ⟨b3, 3, none⟩ = some (.string n1) ∧ w'.cell? ⟨b3, 4, none⟩ = some (.slice A1 q.length c1)) (ds := []) #[false, false, false, false, false, false] (by kernel_rfl) rfl rfl ⟨(blk_cell K20.out 0).trans rfl, (blk_cell K20.out 1).trans rfl, (blk_cell K20.out 2).trans rfl, (blk_cell K20.out 3).trans rfl, (blk_cell K20.out 4).trans rfl, (blk_cell K30.out 0).trans rfl, (blk_cell K30.out 1).trans rfl, (blk_cell K30.out 2).trans rfl, (blk_cell K30.out 3).trans rfl, (blk_cell K30.out 4).trans rfl⟩ (fun hHeld => ?_)
  refine take_ (i := 0) (N := some 32) (v := ?_) (a' := ?_) #[true, false, false, false, false, false] rfl rfl (by kernel_rfl) (fun _ _ _ h => h) (Or.inl ⟨by rfl, ?_⟩) hHeld ?_ ?_
  rotate_left
  · rintro w' ⟨s0, s1, s2, s3, s4, s5, s6, s7, s8, s9⟩
    go_simp
    with_reducible rfl
  rotate_left
  · simp only [Act.put, List.setIfInBounds_toArray, List.set_cons_zero, List.set_cons_succ, i64_w, i32_w]
    rfl
  refine take_ (i := 2) (N := some 34) (v := ?_) (a' := ?_) #[true, false, true, false, false, false] rfl rfl (by kernel_rfl) (fun _ _ _ h => h) (Or.inl ⟨by rfl, ?_⟩) hHeld ?_ ?_
  rotate_left
  · rintro w' ⟨s0, s1, s2, s3, s4, s5, s6, s7, s8, s9⟩
    go_simp
    with_reducible rfl
  rotate_left
  · simp only [Act.put, List.setIfInBounds_toArray, List.set_cons_zero, List.set_cons_succ, i64_w, i32_w]
    rfl
  refine one_ (i := 1) (N := some 33) #[true, true, true, false, false, false] rfl rfl (by kernel_rfl) (by decide) (fun K hK => ?_)
  refine goes_ Tryd.func50 (by kernel_rfl) rfl #[.agg #[.int .i64 x.f0, .int .i64 x.f1, .string x.f2, .string n0, .slice A0 p.length c0]] (by rfl) rfl rfl (by simp only [List.map_toArray, List.map_cons, List.map_nil]; rfl) ?_
  with_reducible refine (places_calls x n0 A0 c0 p _ (Kd.C_below HX.out.1.1 B0.out) HX.out.1.2 HOK.out.2.2.2.2.1).mono ?_
  rintro e w4_ ⟨vx, rfl, hRx, hb⟩
  refine ⟨_, rfl, ?_⟩
  obtain ⟨Ax, cx, rfl⟩ := Kd.R_slice hRx
  have B1 := Aside0.mk (below_step B0.out hb)
  have M1 := Aside0.mk (mapT_below M0.out hb)
  have K21 := Aside0.mk (blk_below K20.out hb)
  have K31 := Aside0.mk (blk_below K30.out hb)
  have RX1 := Aside0.mk (Kd.R_lower (R_off hRx M0.out.lt) B0.out.size)
  clear hRx hb
  refine hK.out _ _ ⟨(blk_cell K21.out 0).trans rfl, (blk_cell K21.out 1).trans rfl, (blk_cell K21.out 2).trans rfl, (blk_cell K21.out 3).trans rfl, (blk_cell K21.out 4).trans rfl, (blk_cell K31.out 0).trans rfl, (blk_cell K31.out 1).trans rfl, (blk_cell K31.out 2).trans rfl, (blk_cell K31.out 3).trans rfl, (blk_cell K31.out 4).trans rfl⟩ (fun hHeld => ?_)
  clear hK K
  refine norm_ (a' := ?_) ?_ ?_
  rotate_left
  · show Act.put _ (some 33) _ = _
    simp only [Act.put, List.setIfInBounds_toArray, List.set_cons_zero, List.set_cons_succ, i64_w, i32_w]
    rfl
  refine one_ (i := 3) (N := some 35) #[true, true, true, true, false, false] rfl rfl (by kernel_rfl) (by decide) (fun K hK => ?_)
  refine goes_ Tryd.func50 (by kernel_rfl) rfl #[.agg #[.int .i64 y.f0, .int .i64 y.f1, .string y.f2, .string n1, .slice A1 q.length c1]] (by rfl) rfl rfl (by simp only [List.map_toArray, List.map_cons, List.map_nil]; rfl) ?_
  with_reducible refine (places_calls y n1 A1 c1 q _ (Kd.C_below HX.out.2.1 B1.out) HX.out.2.2 HOK.out.2.2.2.2.2).mono ?_
  rintro e w5_ ⟨vy, rfl, hRy, hb⟩
  refine ⟨_, rfl, ?_⟩
  obtain ⟨Ay, cy, rfl⟩ := Kd.R_slice hRy
  have B2 := Aside0.mk (below_step B1.out hb)
  have M2 := Aside0.mk (mapT_below M1.out hb)
  have K22 := Aside0.mk (blk_below K21.out hb)
  have K32 := Aside0.mk (blk_below K31.out hb)
  have RX2 := Aside0.mk (Kd.R_below RX1.out hb)
  have RY2 := Aside0.mk (Kd.R_lower (R_off hRy M1.out.lt) B1.out.size)
  clear hRy hb
  refine hK.out _ _ ⟨(blk_cell K22.out 0).trans rfl, (blk_cell K22.out 1).trans rfl, (blk_cell K22.out 2).trans rfl, (blk_cell K22.out 3).trans rfl, (blk_cell K22.out 4).trans rfl, (blk_cell K32.out 0).trans rfl, (blk_cell K32.out 1).trans rfl, (blk_cell K32.out 2).trans rfl, (blk_cell K32.out 3).trans rfl, (blk_cell K32.out 4).trans rfl⟩ (fun hHeld => ?_)
  clear hK K
  refine norm_ (a' := ?_) ?_ ?_
  rotate_left
  · show Act.put _ (some 35) _ = _
    simp only [Act.put, List.setIfInBounds_toArray, List.set_cons_zero, List.set_cons_succ, i64_w, i32_w]
    rfl
  refine pure_ (i := 4) (N := some 7) (v := ?_) (a' := ?_) #[true, true, true, true, true, false] rfl rfl (by kernel_rfl) (fun _ _ _ h => h) (Or.inl ⟨by rfl, ?_⟩) ?_ ?_
  rotate_left
  · intro w'
    go_simp
    with_reducible rfl
  rotate_left
  · simp only [Act.put, List.setIfInBounds_toArray, List.set_cons_zero, List.set_cons_succ, i64_w, i32_w]
    rfl
  refine pure_ (i := 5) (N := some 8) (v := ?_) (a' := ?_) #[true, true, true, true, true, true] rfl rfl (by kernel_rfl) (fun _ _ _ h => h) (Or.inl ⟨by rfl, ?_⟩) ?_ ?_
  rotate_left
  · intro w'
    go_simp
    with_reducible rfl
  rotate_left
  · simp only [Act.put, List.setIfInBounds_toArray, List.set_cons_zero, List.set_cons_succ, i64_w, i32_w]
    rfl
  refine done_ (by kernel_rfl) ?_
  clear hHeld
  obtain ⟨P, hP⟩ : ∃ P, P = x :: p := ⟨_, rfl⟩
  obtain ⟨Q, hQ⟩ : ∃ Q, Q = y :: q := ⟨_, rfl⟩
  rw [← hP] at RX2
  rw [← hQ] at RY2
  have OP := Aside0.mk (show P.all okT = true by rw [hP]; simp only [List.all_cons, Bool.and_eq_true]; exact ⟨HOK.out.1, HOK.out.2.2.1⟩)
  have OQ := Aside0.mk (show Q.all okT = true by rw [hQ]; simp only [List.all_cons, Bool.and_eq_true]; exact ⟨HOK.out.2.1, HOK.out.2.2.2.1⟩)
  have HNN := Aside0.mk (show P.length = Q.length ∧ P.length < smallN + 1 by rw [hP, hQ]; simp [HL.out]; have := HOK.out.2.2.2.2.2; omega)
  have HPQ := Aside0.mk (show P = x :: p ∧ Q = y :: q from ⟨hP, hQ⟩)
  have e1 : (x :: p).length = P.length := by rw [hP]
  have e2 : (y :: q).length = P.length := by rw [HNN.out.1, hQ]
  rw [e1, e2]
  have U0 : Aside0 (UInv w _ b 0 (.map []) (fun _ => none) P Q Ax cx Ay cy) := ⟨⟨B2.out, M2.out, ClsD.nil, InvC.nil, RX2.out, RY2.out⟩⟩
  clear hP hQ e1 e2 RX2 RY2 B2 M2
  (try go_wp2)
  obtain ⟨res, hres⟩ : ∃ res, linkAll P Q (fun _ => none) = res := ⟨_, rfl⟩
  have HRES := Aside0.mk hres
  clear hres
  go_loopg [38] P.length (fun gg s38 wr => ∃ (i : Int) (n : Nat) (D : DataW Tm) (C : Cl), s38 = .int .i64 i ∧ Aside0 (0 ≤ i ∧ i ≤ (P.length : Int) ∧ (P.length : Int) - i ≤ (gg : Int)) ∧ Aside0 ((n : Int) ≤ 3 * i) ∧ Aside0 (linkAll (P.drop i.toNat) (Q.drop i.toNat) C = res) ∧ Aside0 (UInv w wr b n D C P Q Ax cx Ay cy) ∧ Aside0 (wr.heap[b2]? = some (.cells #[.int .i64 x.f0, .int .i64 x.f1, .string x.f2, .string n0, .slice A0 p.length c0] 26 (0, 0))) ∧ Aside0 (wr.heap[b3]? = some (.cells #[.int .i64 y.f0, .int .i64 y.f1, .string y.f2, .string n1, .slice A1 q.length c1] 26 (0, 0))))
  case atStart => exact ⟨0, 0, _, _, rfl, ⟨by omega, by omega, by omega⟩, ⟨by omega⟩, HRES, U0, K22, K32⟩
  case round =>
    clear U0 K22 K32
    obtain ⟨i, n, D, C, rfl, HK, HNI, HA, U, K2, K3⟩ := hrel
    by_cases hlt : i < (P.length : Int)
    · have hltb : decide (i < (P.length : Int)) = true := decide_eq_true hlt
      have hpos : 0 ≤ i := HK.out.1
      have HLT := Aside0.mk (show i.toNat < P.length by omega)
      have HLQ := Aside0.mk (show i.toNat < Q.length by have := HNN.out.1; omega)
      have HPOS := Aside0.mk hpos
      have UD : Aside0 (UInv w wr.drew b n D C P Q Ax cx Ay cy) := ⟨U.out.up (Below.refl _ wr).drew⟩
      obtain ⟨ad, e0, h0, h1, h2⟩ := at_T23 (Kd.R_reads' UD.out.left).2.2 i hpos hlt
      obtain ⟨ae, e1, g0, g1, g2⟩ := at_T23 (Kd.R_reads' UD.out.right).2.2 i hpos (by have := HNN.out.1; omega)
      cases e0
      cases e1
      have hst := linkAll_step HLT.out HLQ.out C
      rw [HA.out, show P[i.toNat]'HLT.out = rd_T23 P i from by simp [rd_T23, List.getD_eq_getElem?_getD, List.getElem?_eq_getElem HLT.out], show Q[i.toNat]'HLQ.out = rd_T23 Q i from by simp [rd_T23, List.getD_eq_getElem?_getD, List.getElem?_eq_getElem HLQ.out]] at hst
      have hot : okT (rd_T23 P i) = true := by
        rw [show rd_T23 P i = P[i.toNat]'HLT.out from by simp [rd_T23, List.getD_eq_getElem?_getD, List.getElem?_eq_getElem HLT.out]]
        exact List.all_eq_true.1 OP.out _ (List.getElem_mem HLT.out)
      have hou : okT (rd_T23 Q i) = true := by
        rw [show rd_T23 Q i = Q[i.toNat]'HLQ.out from by simp [rd_T23, List.getD_eq_getElem?_getD, List.getElem?_eq_getElem HLQ.out]]
        exact List.all_eq_true.1 OQ.out _ (List.getElem_mem HLQ.out)
      generalize rd_T23 P i = t at *
      generalize rd_T23 Q i = u at *
      have OT := Aside0.mk hot
      have OU := Aside0.mk hou
      obtain ⟨lk, hlk⟩ : ∃ lk, linkF C t u = lk := ⟨_, rfl⟩
      obtain ⟨ok, C2⟩ := lk
      rw [hlk] at hst
      have HLK := Aside0.mk hlk
      have HST := Aside0.mk hst
      have hwr : wrap64 (i + 1) = i + 1 := by have := HNN.out.2; simp only [smallN] at this; simp only [wrap64]; omega
      have hPl : P.length = p.length + 1 := by rw [HPQ.out.1]; rfl
      have hltq : (i < (q.length : Int) + 1) = True := eq_true (by have := HL.out; omega)
      have hltp : (i < (p.length : Int) + 1) = True := eq_true (by omega)
      have hltpb : decide (i < (p.length : Int) + 1) = true := decide_eq_true (by omega)
      clear hPl
      have hlt' := eq_true hlt
      have hpos' := eq_true hpos
      have HB3 := Aside0.mk (show n + 3 < maxLen by have := HNI.out; have := HNN.out.2; simp only [smallN] at this; simp only [maxLen]; omega)
      clear hlt hpos hst hot hou hlk
      cases hok : ok with
      | true =>
        subst hok
        (try go_wp2)
        refine start_ (n := 11) (S := fun w' => w'.cell? (ad.add (i.toNat * 3)) = some (.int .i64 t.f0) ∧ w'.cell? ⟨(ad.add (i.toNat * 3)).block, (ad.add (i.toNat * 3)).off + 1, none⟩ = some (.int .i64 t.f1) ∧ w'.cell? ⟨(ad.add (i.toNat * 3)).block, (ad.add (i.toNat * 3)).off + 2, none⟩ = some (.string t.f2) ∧ w'.cell? (ae.add (i.toNat * 3)) = some (.int .i64 u.f0) ∧ w'.cell? ⟨(ae.add (i.toNat * 3)).block, (ae.add (i.toNat * 3)).off + 1, none⟩ = some (.int .i64 u.f1) ∧ w'.cell? ⟨(ae.add (i.toNat * 3)).block, (ae.add (i.toNat * 3)).off + 2, none⟩ = some (.string u.f2)) (ds := [9]) #[false, false, false, false, false, false, false, false, false, false, false] (by kernel_rfl) rfl rfl ⟨(by exact h0), (by exact h1), (by exact h2), (by exact g0), (by exact g1), (by exact g2)⟩ (fun hHeld => ?_)
        refine pure_ (i := 0) (N := some 41) (v := ?_) (a' := ?_) #[true, false, false, false, false, false, false, false, false, false, false] rfl rfl (by kernel_rfl) (fun _ _ _ h => h) (Or.inl ⟨by rfl, ?_⟩) ?_ ?_
        rotate_left
        · intro w'
          go_simp
          with_reducible rfl
        rotate_left
        · simp only [Act.put, List.setIfInBounds_toArray, List.set_cons_zero, List.set_cons_succ, i64_w, i32_w]
          rfl
        refine pure_ (i := 1) (N := some 42) (v := ?_) (a' := ?_) #[true, true, false, false, false, false, false, false, false, false, false] rfl rfl (by kernel_rfl) (fun _ _ _ h => h) (Or.inl ⟨by rfl, ?_⟩) ?_ ?_
        rotate_left
        · intro w'
          go_simp
          with_reducible rfl
        rotate_left
        · simp only [Act.put, List.setIfInBounds_toArray, List.set_cons_zero, List.set_cons_succ, i64_w, i32_w]
          rfl
        refine pure_ (i := 2) (N := some 43) (v := ?_) (a' := ?_) #[true, true, true, false, false, false, false, false, false, false, false] rfl rfl (by kernel_rfl) (fun _ _ _ h => h) (Or.inl ⟨by rfl, ?_⟩) ?_ ?_
        rotate_left
        · intro w'
          go_simp
          with_reducible rfl
        rotate_left
        · simp only [Act.put, List.setIfInBounds_toArray, List.set_cons_zero, List.set_cons_succ, i64_w, i32_w]
          rfl
        refine pure_ (i := 3) (N := some 44) (v := ?_) (a' := ?_) #[true, true, true, true, false, false, false, false, false, false, false] rfl rfl (by kernel_rfl) (fun _ _ _ h => h) (Or.inl ⟨by rfl, ?_⟩) ?_ ?_
        rotate_left
        · intro w'
          go_simp
          with_reducible rfl
        rotate_left
        · simp only [Act.put, List.setIfInBounds_toArray, List.set_cons_zero, List.set_cons_succ, i64_w, i32_w]
          rfl
        refine pure_ (i := 5) (N := some 46) (v := ?_) (a' := ?_) #[true, true, true, true, false, true, false, false, false, false, false] rfl rfl (by kernel_rfl) (fun _ _ _ h => h) (Or.inl ⟨by rfl, ?_⟩) ?_ ?_
        rotate_left
        · intro w'
          go_simp
          with_reducible rfl
        rotate_left
        · simp only [Act.put, List.setIfInBounds_toArray, List.set_cons_zero, List.set_cons_succ, i64_w, i32_w]
          rfl
        refine pure_ (i := 6) (N := some 47) (v := ?_) (a' := ?_) #[true, true, true, true, false, true, true, false, false, false, false] rfl rfl (by kernel_rfl) (fun _ _ _ h => h) (Or.inl ⟨by rfl, ?_⟩) ?_ ?_
        rotate_left
        · intro w'
          go_simp
          with_reducible rfl
        rotate_left
        · simp only [Act.put, List.setIfInBounds_toArray, List.set_cons_zero, List.set_cons_succ, i64_w, i32_w]
          rfl
        refine pure_ (i := 7) (N := some 48) (v := ?_) (a' := ?_) #[true, true, true, true, false, true, true, true, false, false, false] rfl rfl (by kernel_rfl) (fun _ _ _ h => h) (Or.inl ⟨by rfl, ?_⟩) ?_ ?_
        rotate_left
        · intro w'
          go_simp
          with_reducible rfl
        rotate_left
        · simp only [Act.put, List.setIfInBounds_toArray, List.set_cons_zero, List.set_cons_succ, i64_w, i32_w]
          rfl
        refine take_ (i := 4) (N := some 45) (v := ?_) (a' := ?_) #[true, true, true, true, true, true, true, true, false, false, false] rfl rfl (by kernel_rfl) (fun _ _ _ h => h) (Or.inl ⟨by rfl, ?_⟩) hHeld ?_ ?_
        rotate_left
        · rintro w' ⟨s0, s1, s2, s3, s4, s5⟩
          go_simp
          with_reducible rfl
        rotate_left
        · simp only [Act.put, List.setIfInBounds_toArray, List.set_cons_zero, List.set_cons_succ, i64_w, i32_w]
          rfl
        refine take_ (i := 8) (N := some 49) (v := ?_) (a' := ?_) #[true, true, true, true, true, true, true, true, true, false, false] rfl rfl (by kernel_rfl) (fun _ _ _ h => h) (Or.inl ⟨by rfl, ?_⟩) hHeld ?_ ?_
        rotate_left
        · rintro w' ⟨s0, s1, s2, s3, s4, s5⟩
          go_simp
          with_reducible rfl
        rotate_left
        · simp only [Act.put, List.setIfInBounds_toArray, List.set_cons_zero, List.set_cons_succ, i64_w, i32_w]
          rfl
        refine last_ (i := 9) (N := some 50) #[true, true, true, true, true, true, true, true, true, true, false] rfl rfl (by kernel_rfl) (by decide) (fun K hK => ?_)
        refine goes_ Tryd.func59 (by kernel_rfl) rfl #[.map (some b), .agg #[.int .i64 t.f0, .int .i64 t.f1, .string t.f2], .agg #[.int .i64 u.f0, .int .i64 u.f1, .string u.f2]] (by rfl) rfl rfl (by simp only [List.map_toArray, List.map_cons, List.map_nil]; rfl) ?_
        with_reducible refine (link_calls3 b n D C t u true C2 _ UD.out.m UD.out.cls UD.out.inv OT.out OU.out HB3.out HLK.out).mono ?_
        rintro e w6 ⟨D2, rfl, hC2, hI2, hm2, hg2⟩
        refine ⟨_, rfl, ?_⟩
        have HC2 := Aside0.mk hC2
        have HI2 := Aside0.mk hI2
        have HM2 := Aside0.mk hm2
        have HG2 := Aside0.mk hg2
        clear hC2 hI2 hm2 hg2
        refine hK.out _ _ ?_
        clear hK K
        refine norm_ (a' := ?_) ?_ ?_
        rotate_left
        · show Act.put _ (some 50) _ = _
          simp only [Act.put, List.setIfInBounds_toArray, List.set_cons_zero, List.set_cons_succ, i64_w, i32_w]
          rfl
        refine pure_ (i := 10) (N := some 51) (v := ?_) (a' := ?_) #[true, true, true, true, true, true, true, true, true, true, true] rfl rfl (by kernel_rfl) (fun _ _ _ h => h) (Or.inl ⟨by rfl, ?_⟩) ?_ ?_
        rotate_left
        · intro w'
          go_simp
          with_reducible rfl
        rotate_left
        · simp only [Act.put, List.setIfInBounds_toArray, List.set_cons_zero, List.set_cons_succ, i64_w, i32_w]
          rfl
        refine done_ (by kernel_rfl) ?_
        go_wp2
        go_roundg (P.length - (i.toNat + 1))
        case measure => have := HK.out; have := HLT.out; omega
        case rel =>
          refine ⟨i + 1, n + 3, D2, C2, by first | rfl | (simp [hwr]; done) | go_num, ⟨by have := HPOS.out; omega, by have := HLT.out; omega, by have := HLT.out; have := HPOS.out; omega⟩, ⟨by have := HNI.out; push_cast; omega⟩, ⟨?_⟩, ⟨UD.out.turn GB.out HG2.out HM2.out HC2.out HI2.out⟩, ⟨blk_grown (blk_drew K2.out) HG2.out (by simp [NK2.out])⟩, ⟨blk_grown (blk_drew K3.out) HG2.out (by simp [NK3.out])⟩⟩
          rw [show (i + 1).toNat = i.toNat + 1 by have := HPOS.out; omega]
          have := HST.out
          simpa using this.symm
      | false =>
        subst hok
        (try go_wp2)
        refine start_ (n := 11) (S := fun w' => w'.cell? (ad.add (i.toNat * 3)) = some (.int .i64 t.f0) ∧ w'.cell? ⟨(ad.add (i.toNat * 3)).block, (ad.add (i.toNat * 3)).off + 1, none⟩ = some (.int .i64 t.f1) ∧ w'.cell? ⟨(ad.add (i.toNat * 3)).block, (ad.add (i.toNat * 3)).off + 2, none⟩ = some (.string t.f2) ∧ w'.cell? (ae.add (i.toNat * 3)) = some (.int .i64 u.f0) ∧ w'.cell? ⟨(ae.add (i.toNat * 3)).block, (ae.add (i.toNat * 3)).off + 1, none⟩ = some (.int .i64 u.f1) ∧ w'.cell? ⟨(ae.add (i.toNat * 3)).block, (ae.add (i.toNat * 3)).off + 2, none⟩ = some (.string u.f2)) (ds := [9]) #[false, false, false, false, false, false, false, false, false, false, false] (by kernel_rfl) rfl rfl ⟨(by exact h0), (by exact h1), (by exact h2), (by exact g0), (by exact g1), (by exact g2)⟩ (fun hHeld => ?_)
        refine pure_ (i := 0) (N := some 41) (v := ?_) (a' := ?_) #[true, false, false, false, false, false, false, false, false, false, false] rfl rfl (by kernel_rfl) (fun _ _ _ h => h) (Or.inl ⟨by rfl, ?_⟩) ?_ ?_
        rotate_left
        · intro w'
          go_simp
          with_reducible rfl
        rotate_left
        · simp only [Act.put, List.setIfInBounds_toArray, List.set_cons_zero, List.set_cons_succ, i64_w, i32_w]
          rfl
        refine pure_ (i := 1) (N := some 42) (v := ?_) (a' := ?_) #[true, true, false, false, false, false, false, false, false, false, false] rfl rfl (by kernel_rfl) (fun _ _ _ h => h) (Or.inl ⟨by rfl, ?_⟩) ?_ ?_
        rotate_left
        · intro w'
          go_simp
          with_reducible rfl
        rotate_left
        · simp only [Act.put, List.setIfInBounds_toArray, List.set_cons_zero, List.set_cons_succ, i64_w, i32_w]
          rfl
        refine pure_ (i := 2) (N := some 43) (v := ?_) (a' := ?_) #[true, true, true, false, false, false, false, false, false, false, false] rfl rfl (by kernel_rfl) (fun _ _ _ h => h) (Or.inl ⟨by rfl, ?_⟩) ?_ ?_
        rotate_left
        · intro w'
          go_simp
          with_reducible rfl
        rotate_left
        · simp only [Act.put, List.setIfInBounds_toArray, List.set_cons_zero, List.set_cons_succ, i64_w, i32_w]
          rfl
        refine pure_ (i := 3) (N := some 44) (v := ?_) (a' := ?_) #[true, true, true, true, false, false, false, false, false, false, false] rfl rfl (by kernel_rfl) (fun _ _ _ h => h) (Or.inl ⟨by rfl, ?_⟩) ?_ ?_
        rotate_left
        · intro w'
          go_simp
          with_reducible rfl
        rotate_left
        · simp only [Act.put, List.setIfInBounds_toArray, List.set_cons_zero, List.set_cons_succ, i64_w, i32_w]
          rfl
        refine pure_ (i := 5) (N := some 46) (v := ?_) (a' := ?_) #[true, true, true, true, false, true, false, false, false, false, false] rfl rfl (by kernel_rfl) (fun _ _ _ h => h) (Or.inl ⟨by rfl, ?_⟩) ?_ ?_
        rotate_left
        · intro w'
          go_simp
          with_reducible rfl
        rotate_left
        · simp only [Act.put, List.setIfInBounds_toArray, List.set_cons_zero, List.set_cons_succ, i64_w, i32_w]
          rfl
        refine pure_ (i := 6) (N := some 47) (v := ?_) (a' := ?_) #[true, true, true, true, false, true, true, false, false, false, false] rfl rfl (by kernel_rfl) (fun _ _ _ h => h) (Or.inl ⟨by rfl, ?_⟩) ?_ ?_
        rotate_left
        · intro w'
          go_simp
          with_reducible rfl
        rotate_left
        · simp only [Act.put, List.setIfInBounds_toArray, List.set_cons_zero, List.set_cons_succ, i64_w, i32_w]
          rfl
        refine pure_ (i := 7) (N := some 48) (v := ?_) (a' := ?_) #[true, true, true, true, false, true, true, true, false, false, false] rfl rfl (by kernel_rfl) (fun _ _ _ h => h) (Or.inl ⟨by rfl, ?_⟩) ?_ ?_
        rotate_left
        · intro w'
          go_simp
          with_reducible rfl
        rotate_left
        · simp only [Act.put, List.setIfInBounds_toArray, List.set_cons_zero, List.set_cons_succ, i64_w, i32_w]
          rfl
        refine take_ (i := 4) (N := some 45) (v := ?_) (a' := ?_) #[true, true, true, true, true, true, true, true, false, false, false] rfl rfl (by kernel_rfl) (fun _ _ _ h => h) (Or.inl ⟨by rfl, ?_⟩) hHeld ?_ ?_
        rotate_left
        · rintro w' ⟨s0, s1, s2, s3, s4, s5⟩
          go_simp
          with_reducible rfl
        rotate_left
        · simp only [Act.put, List.setIfInBounds_toArray, List.set_cons_zero, List.set_cons_succ, i64_w, i32_w]
          rfl
        refine take_ (i := 8) (N := some 49) (v := ?_) (a' := ?_) #[true, true, true, true, true, true, true, true, true, false, false] rfl rfl (by kernel_rfl) (fun _ _ _ h => h) (Or.inl ⟨by rfl, ?_⟩) hHeld ?_ ?_
        rotate_left
        · rintro w' ⟨s0, s1, s2, s3, s4, s5⟩
          go_simp
          with_reducible rfl
        rotate_left
        · simp only [Act.put, List.setIfInBounds_toArray, List.set_cons_zero, List.set_cons_succ, i64_w, i32_w]
          rfl
        refine last_ (i := 9) (N := some 50) #[true, true, true, true, true, true, true, true, true, true, false] rfl rfl (by kernel_rfl) (by decide) (fun K hK => ?_)
        refine goes_ Tryd.func59 (by kernel_rfl) rfl #[.map (some b), .agg #[.int .i64 t.f0, .int .i64 t.f1, .string t.f2], .agg #[.int .i64 u.f0, .int .i64 u.f1, .string u.f2]] (by rfl) rfl rfl (by simp only [List.map_toArray, List.map_cons, List.map_nil]; rfl) ?_
        with_reducible refine (link_calls3 b n D C t u false C2 _ UD.out.m UD.out.cls UD.out.inv OT.out OU.out HB3.out HLK.out).mono ?_
        rintro e w6 ⟨D2, rfl, hC2, hI2, hm2, hg2⟩
        refine ⟨_, rfl, ?_⟩
        have HC2 := Aside0.mk hC2
        have HI2 := Aside0.mk hI2
        have HM2 := Aside0.mk hm2
        have HG2 := Aside0.mk hg2
        clear hC2 hI2 hm2 hg2
        refine hK.out _ _ ?_
        clear hK K
        refine norm_ (a' := ?_) ?_ ?_
        rotate_left
        · show Act.put _ (some 50) _ = _
          simp only [Act.put, List.setIfInBounds_toArray, List.set_cons_zero, List.set_cons_succ, i64_w, i32_w]
          rfl
        refine pure_ (i := 10) (N := some 51) (v := ?_) (a' := ?_) #[true, true, true, true, true, true, true, true, true, true, true] rfl rfl (by kernel_rfl) (fun _ _ _ h => h) (Or.inl ⟨by rfl, ?_⟩) ?_ ?_
        rotate_left
        · intro w'
          go_simp
          with_reducible rfl
        rotate_left
        · simp only [Act.put, List.setIfInBounds_toArray, List.set_cons_zero, List.set_cons_succ, i64_w, i32_w]
          rfl
        refine done_ (by kernel_rfl) ?_
        go_wp2
        go_ret2
        have hn : linkAll (x :: p) (y :: q) (fun _ => none) = none := by
          rw [← HPQ.out.1, ← HPQ.out.2, HRES.out]
          have := HST.out
          simpa using this
        refine ⟨_, by rw [unify_none HNM.out HL.out hn]; rfl, ?_, (UD.out.turn GB.out HG2.out HM2.out HC2.out HI2.out).below⟩
        rw [unify_none HNM.out HL.out hn]
        exact Kd.R_nil _ _ _ _ _
    · have hltb : decide (i < (P.length : Int)) = false := decide_eq_false hlt
      have hPl : P.length = p.length + 1 := by rw [HPQ.out.1]; rfl
      have hltpb : decide (i < (p.length : Int) + 1) = false := decide_eq_false (by omega)
      have hltp : (i < (p.length : Int) + 1) = False := eq_false (by omega)
      clear hPl
      have HIN := Aside0.mk (show i.toNat = P.length by have := HK.out; omega)
      have HRC := Aside0.mk (show res = some C by
        have := HA.out
        rw [HIN.out, List.drop_length] at this
        exact this.symm)
      clear hlt
      have k20 := (blk_cell K2.out 0).trans rfl
      have k21 := (blk_cell K2.out 1).trans rfl
      have k22 := (blk_cell K2.out 2).trans rfl
      have k30 := (blk_cell K3.out 0).trans rfl
      have k31 := (blk_cell K3.out 1).trans rfl
      have k32 := (blk_cell K3.out 2).trans rfl
      have HNZ := Aside0.mk (show (n : Int) ≤ 3 * P.length by have := HNI.out; have := HK.out; omega)
      go_wp2_with (first
        | ((with_reducible refine gate_dst (N := 57) rfl ?_); refine Kd.R_lit k23 _ 23 ?hg (N := 57) ?hd (xs := [x, y]) (inner := [.int .i64 x.f0, .int .i64 x.f1, .string x.f2, .int .i64 y.f0, .int .i64 y.f1, .string y.f2]) (ok := fun k => k ≠ b) (okp := fun k => k ≠ b) ?hr ?hp (fun _ hk => hk) (Nat.ne_of_gt U.out.m.lt) (Below.refl _ _) (Nat.le_refl _) (by simp) ?_; (case hd => rfl); (case hg => rfl); (case hr => first | (go_simp; done) | (go_simp; rfl)); (case hp => exact (Reps.c3 (show Kd.M k23 _ _ _ x [.int .i64 x.f0, .int .i64 x.f1, .string x.f2] from (k23_mkM _ _ _ x)) (Reps.c3 (show Kd.M k23 _ _ _ y [.int .i64 y.f0, .int .i64 y.f1, .string y.f2] from (k23_mkM _ _ _ y)) (Reps.none _ _)))); intro vl wl ho hb hg_ hnew_; have RL := Aside0.mk (Kd.R_lower ho U.out.below.size); have UL := Aside0.mk (U.out.up hb); clear ho hb hg_ hnew_ k20 k21 k22 k30 k31 k32; obtain ⟨Al, cl, el⟩ := Kd.R_slice RL.out; subst el)
        | go_in)
      clear K2 K3 U
      obtain ⟨rb, hrb⟩ : ∃ rb, byAll [x, y] C = rb := ⟨_, rfl⟩
      have HRB := Aside0.mk hrb
      clear hrb
      obtain ⟨L2, hL2⟩ : ∃ L2 : List Tm, L2 = [x, y] := ⟨_, rfl⟩
      rw [← hL2] at RL HRB
      have HL2 := Aside0.mk (show L2 = [x, y] ∧ L2.length = 2 ∧ L2.all okT = true by rw [hL2]; refine ⟨rfl, rfl, ?_⟩; simp [HOK.out.1, HOK.out.2.1])
      clear hL2
      have HX0 := Aside0.mk (show ((n : Nat) : Int) ≤ 3 * P.length + 0 by have := HNZ.out; omega)
      (try simp only [Act.put, List.setIfInBounds_toArray, List.set_cons_zero, List.set_cons_succ])
      obtain ⟨C0, hC0⟩ : ∃ C0, C0 = C := ⟨_, rfl⟩
      rw [← hC0] at HRB HRC
      have UL0 : Aside0 (UInv w wl b n D C0 P Q Ax cx Ay cy) := ⟨hC0 ▸ UL.out⟩
      clear hC0
      go_loopg [59] 2 (fun gg s59 wv => ∃ (i : Int) (n : Nat) (D : DataW Tm) (C : Cl), s59 = .int .i64 i ∧ Aside0 (0 ≤ i ∧ i ≤ 2 ∧ 2 - i ≤ (gg : Int)) ∧ Aside0 ((n : Int) ≤ 3 * P.length + i) ∧ Aside0 (byAll (L2.drop i.toNat) C = rb) ∧ Aside0 (UInv w wv b n D C P Q Ax cx Ay cy) ∧ Aside0 (Kd.R k23 23 wv w.heap.size (fun k => k ≠ b) (.slice Al L2.length cl) L2))
      case atStart => exact ⟨0, n, D, C0, rfl, ⟨by omega, by omega, by omega⟩, HX0, HRB, UL0, RL⟩
      case round =>
        clear UL RL HX0
        obtain ⟨i, n, D, C, rfl, HK, HNI, HA, U, RL⟩ := hrel
        by_cases hlt : i < 2
        · have hltb : decide (i < 2) = true := decide_eq_true hlt
          have hpos : 0 ≤ i := HK.out.1
          have HLT := Aside0.mk (show i.toNat < L2.length by have := HL2.out.2.1; omega)
          have HPOS := Aside0.mk hpos
          obtain ⟨ad, e0, h0, h1, h2⟩ := at_T23 (Kd.R_reads' RL.out).2.2 i hpos (by have := HL2.out.2.1; omega)
          cases e0
          have hst := byAll_step HLT.out C
          have hot : okT (rd_T23 L2 i) = true := by
            rw [show rd_T23 L2 i = L2[i.toNat]'HLT.out from by simp [rd_T23, List.getD_eq_getElem?_getD, List.getElem?_eq_getElem HLT.out]]
            exact List.all_eq_true.1 HL2.out.2.2 _ (List.getElem_mem HLT.out)
          rw [HA.out, show L2[i.toNat]'HLT.out = rd_T23 L2 i from by simp [rd_T23, List.getD_eq_getElem?_getD, List.getElem?_eq_getElem HLT.out]] at hst
          generalize rd_T23 L2 i = t at *
          have OT := Aside0.mk hot
          obtain ⟨tp, htp⟩ : ∃ tp, topF C t = tp := ⟨_, rfl⟩
          obtain ⟨u, C2⟩ := tp
          rw [htp] at hst
          have HTP := Aside0.mk htp
          have hwr : wrap64 (i + 1) = i + 1 := by simp only [wrap64]; omega
          have hlt' := eq_true hlt
          have hpos' := eq_true hpos
          have HN1 := Aside0.mk (show n < maxLen by have := HNI.out; have := HNN.out.2; simp only [smallN] at this; simp only [maxLen]; omega)
          clear hlt hpos hot htp
          cases htv : isVar t with
          | false =>
            have VT := Aside0.mk ((var_f t).trans (congrArg some htv))
            have HST := Aside0.mk (show byAll (L2.drop (i.toNat + 1)) C2 = rb by rw [hst, htv]; rfl)
            clear hst htv
            go_wp2_with (first
              | (go_at_call 27; (with_reducible refine (term_Variable.calls t.f0 t.f1 t.f2 false _ VT.out).mono ?_); rintro e w9 ⟨rfl, hb⟩; have T2 := Aside0.mk ((TInv.mk (UB.out.up (below_alloc (Below.refl _ _) _)) (Kd.R_alloc RB.out _) (blk_alloc KT.out _) (blk_new w8 _)).up hb); clear hb ta0 ta1 ta2; have ub0 := (blk_cell T2.out.k12 0).trans rfl; have ub1 := (blk_cell T2.out.k12 1).trans rfl; have ub2 := (blk_cell T2.out.k12 2).trans rfl)
              | (go_at_call 60; (with_reducible refine (top_calls3 b n D C t u C2 _ (U.out.up (below_alloc (Below.refl _ _) _)).m U.out.cls U.out.inv OT.out HN1.out HTP.out).mono ?_); rintro e w8 ⟨D2, rfl, hC2, hI2, hou, hm2, hg2⟩; have UB := Aside0.mk ((U.out.up (below_alloc (Below.refl _ _) _)).turn GB.out hg2 hm2 hC2 hI2); have RB := Aside0.mk (Kd.R_grown (Kd.R_alloc RL.out _) hg2 (fun k hk e => hk (by injection e))); have KT := Aside0.mk (blk_grown (blk_new wr _) hg2 (by have := U.out.m.lt; simp; omega)); clear hC2 hI2 hou hm2 hg2; have ta0 := fun o => (blk_cell (blk_alloc KT.out o) 0).trans rfl; have ta1 := fun o => (blk_cell (blk_alloc KT.out o) 1).trans rfl; have ta2 := fun o => (blk_cell (blk_alloc KT.out o) 2).trans rfl)
              | go_in)
            go_roundg (2 - (i.toNat + 1))
            case measure => have := HK.out; have := HLT.out; have := HL2.out.2.1; omega
            case rel =>
              refine ⟨i + 1, n + 1, D2, C2, by first | rfl | (simp [hwr]; done) | go_num, ⟨by have := HPOS.out; omega, by have := HLT.out; have := HL2.out.2.1; omega, by have := HLT.out; have := HPOS.out; have := HL2.out.2.1; omega⟩, ⟨by have := HNI.out; push_cast; omega⟩, ⟨?_⟩, ⟨T2.out.iv⟩, ⟨T2.out.l⟩⟩
              rw [show (i + 1).toNat = i.toNat + 1 by have := HPOS.out; omega]
              exact HST.out
          | true =>
            have VT := Aside0.mk ((var_f t).trans (congrArg some htv))
            cases huv : isVar u with
            | true =>
              have VU := Aside0.mk ((var_f u).trans (congrArg some huv))
              have HST := Aside0.mk (show byAll (L2.drop (i.toNat + 1)) C2 = rb by rw [hst, htv, huv]; rfl)
              clear hst htv huv
              go_wp2_with (first
                | (go_at_call 27; (with_reducible refine (term_Variable.calls u.f0 u.f1 u.f2 true _ VU.out).mono ?_); rintro e w10 ⟨rfl, hb⟩; have T3 := Aside0.mk (T2.out.up hb); clear hb ub0 ub1 ub2; have uc0 := (blk_cell T3.out.k12 0).trans rfl; have uc1 := (blk_cell T3.out.k12 1).trans rfl; have uc2 := (blk_cell T3.out.k12 2).trans rfl)
                | (go_at_call 27; (with_reducible refine (term_Variable.calls t.f0 t.f1 t.f2 true _ VT.out).mono ?_); rintro e w9 ⟨rfl, hb⟩; have T2 := Aside0.mk ((TInv.mk (UB.out.up (below_alloc (Below.refl _ _) _)) (Kd.R_alloc RB.out _) (blk_alloc KT.out _) (blk_new w8 _)).up hb); clear hb ta0 ta1 ta2; have ub0 := (blk_cell T2.out.k12 0).trans rfl; have ub1 := (blk_cell T2.out.k12 1).trans rfl; have ub2 := (blk_cell T2.out.k12 2).trans rfl)
                | (go_at_call 60; (with_reducible refine (top_calls3 b n D C t u C2 _ (U.out.up (below_alloc (Below.refl _ _) _)).m U.out.cls U.out.inv OT.out HN1.out HTP.out).mono ?_); rintro e w8 ⟨D2, rfl, hC2, hI2, hou, hm2, hg2⟩; have UB := Aside0.mk ((U.out.up (below_alloc (Below.refl _ _) _)).turn GB.out hg2 hm2 hC2 hI2); have RB := Aside0.mk (Kd.R_grown (Kd.R_alloc RL.out _) hg2 (fun k hk e => hk (by injection e))); have KT := Aside0.mk (blk_grown (blk_new wr _) hg2 (by have := U.out.m.lt; simp; omega)); clear hC2 hI2 hou hm2 hg2; have ta0 := fun o => (blk_cell (blk_alloc KT.out o) 0).trans rfl; have ta1 := fun o => (blk_cell (blk_alloc KT.out o) 1).trans rfl; have ta2 := fun o => (blk_cell (blk_alloc KT.out o) 2).trans rfl)
                | go_in)
              go_roundg (2 - (i.toNat + 1))
              case measure => have := HK.out; have := HLT.out; have := HL2.out.2.1; omega
              case rel =>
                refine ⟨i + 1, n + 1, D2, C2, by first | rfl | (simp [hwr]; done) | go_num, ⟨by have := HPOS.out; omega, by have := HLT.out; have := HL2.out.2.1; omega, by have := HLT.out; have := HPOS.out; have := HL2.out.2.1; omega⟩, ⟨by have := HNI.out; push_cast; omega⟩, ⟨?_⟩, ⟨T3.out.iv⟩, ⟨T3.out.l⟩⟩
                rw [show (i + 1).toNat = i.toNat + 1 by have := HPOS.out; omega]
                exact HST.out
            | false =>
              have VU := Aside0.mk ((var_f u).trans (congrArg some huv))
              cases hpv : isPrin u with
              | true =>
                have VP := Aside0.mk ((prin_f u).trans (congrArg some hpv))
                have HST := Aside0.mk (show byAll (L2.drop (i.toNat + 1)) C2 = rb by rw [hst, htv, huv, hpv]; rfl)
                clear hst htv huv hpv
                go_wp2_with (first
                  | (go_at_call 61; (with_reducible refine (term_Principal.calls u.f0 u.f1 u.f2 true _ VP.out).mono ?_); rintro e w11 ⟨rfl, hb⟩; have T4 := Aside0.mk (T3.out.up hb); clear hb)
                  | (go_at_call 27; (with_reducible refine (term_Variable.calls u.f0 u.f1 u.f2 false _ VU.out).mono ?_); rintro e w10 ⟨rfl, hb⟩; have T3 := Aside0.mk (T2.out.up hb); clear hb ub0 ub1 ub2; have uc0 := (blk_cell T3.out.k12 0).trans rfl; have uc1 := (blk_cell T3.out.k12 1).trans rfl; have uc2 := (blk_cell T3.out.k12 2).trans rfl)
                  | (go_at_call 27; (with_reducible refine (term_Variable.calls t.f0 t.f1 t.f2 true _ VT.out).mono ?_); rintro e w9 ⟨rfl, hb⟩; have T2 := Aside0.mk ((TInv.mk (UB.out.up (below_alloc (Below.refl _ _) _)) (Kd.R_alloc RB.out _) (blk_alloc KT.out _) (blk_new w8 _)).up hb); clear hb ta0 ta1 ta2; have ub0 := (blk_cell T2.out.k12 0).trans rfl; have ub1 := (blk_cell T2.out.k12 1).trans rfl; have ub2 := (blk_cell T2.out.k12 2).trans rfl)
                  | (go_at_call 60; (with_reducible refine (top_calls3 b n D C t u C2 _ (U.out.up (below_alloc (Below.refl _ _) _)).m U.out.cls U.out.inv OT.out HN1.out HTP.out).mono ?_); rintro e w8 ⟨D2, rfl, hC2, hI2, hou, hm2, hg2⟩; have UB := Aside0.mk ((U.out.up (below_alloc (Below.refl _ _) _)).turn GB.out hg2 hm2 hC2 hI2); have RB := Aside0.mk (Kd.R_grown (Kd.R_alloc RL.out _) hg2 (fun k hk e => hk (by injection e))); have KT := Aside0.mk (blk_grown (blk_new wr _) hg2 (by have := U.out.m.lt; simp; omega)); clear hC2 hI2 hou hm2 hg2; have ta0 := fun o => (blk_cell (blk_alloc KT.out o) 0).trans rfl; have ta1 := fun o => (blk_cell (blk_alloc KT.out o) 1).trans rfl; have ta2 := fun o => (blk_cell (blk_alloc KT.out o) 2).trans rfl)
                  | go_in)
                go_roundg (2 - (i.toNat + 1))
                case measure => have := HK.out; have := HLT.out; have := HL2.out.2.1; omega
                case rel =>
                  refine ⟨i + 1, n + 1, D2, C2, by first | rfl | (simp [hwr]; done) | go_num, ⟨by have := HPOS.out; omega, by have := HLT.out; have := HL2.out.2.1; omega, by have := HLT.out; have := HPOS.out; have := HL2.out.2.1; omega⟩, ⟨by have := HNI.out; push_cast; omega⟩, ⟨?_⟩, ⟨T4.out.iv⟩, ⟨T4.out.l⟩⟩
                  rw [show (i + 1).toNat = i.toNat + 1 by have := HPOS.out; omega]
                  exact HST.out
              | false =>
                have VP := Aside0.mk ((prin_f u).trans (congrArg some hpv))
                have HST := Aside0.mk (show rb = none by rw [hst, htv, huv, hpv]; rfl)
                clear hst htv huv hpv
                go_wp2_with (first
                  | (go_at_call 61; (with_reducible refine (term_Principal.calls u.f0 u.f1 u.f2 false _ VP.out).mono ?_); rintro e w11 ⟨rfl, hb⟩; have T4 := Aside0.mk (T3.out.up hb); clear hb)
                  | (go_at_call 27; (with_reducible refine (term_Variable.calls u.f0 u.f1 u.f2 false _ VU.out).mono ?_); rintro e w10 ⟨rfl, hb⟩; have T3 := Aside0.mk (T2.out.up hb); clear hb ub0 ub1 ub2; have uc0 := (blk_cell T3.out.k12 0).trans rfl; have uc1 := (blk_cell T3.out.k12 1).trans rfl; have uc2 := (blk_cell T3.out.k12 2).trans rfl)
                  | (go_at_call 27; (with_reducible refine (term_Variable.calls t.f0 t.f1 t.f2 true _ VT.out).mono ?_); rintro e w9 ⟨rfl, hb⟩; have T2 := Aside0.mk ((TInv.mk (UB.out.up (below_alloc (Below.refl _ _) _)) (Kd.R_alloc RB.out _) (blk_alloc KT.out _) (blk_new w8 _)).up hb); clear hb ta0 ta1 ta2; have ub0 := (blk_cell T2.out.k12 0).trans rfl; have ub1 := (blk_cell T2.out.k12 1).trans rfl; have ub2 := (blk_cell T2.out.k12 2).trans rfl)
                  | (go_at_call 60; (with_reducible refine (top_calls3 b n D C t u C2 _ (U.out.up (below_alloc (Below.refl _ _) _)).m U.out.cls U.out.inv OT.out HN1.out HTP.out).mono ?_); rintro e w8 ⟨D2, rfl, hC2, hI2, hou, hm2, hg2⟩; have UB := Aside0.mk ((U.out.up (below_alloc (Below.refl _ _) _)).turn GB.out hg2 hm2 hC2 hI2); have RB := Aside0.mk (Kd.R_grown (Kd.R_alloc RL.out _) hg2 (fun k hk e => hk (by injection e))); have KT := Aside0.mk (blk_grown (blk_new wr _) hg2 (by have := U.out.m.lt; simp; omega)); clear hC2 hI2 hou hm2 hg2; have ta0 := fun o => (blk_cell (blk_alloc KT.out o) 0).trans rfl; have ta1 := fun o => (blk_cell (blk_alloc KT.out o) 1).trans rfl; have ta2 := fun o => (blk_cell (blk_alloc KT.out o) 2).trans rfl)
                  | go_in)
                go_ret2
                have hn1 := HRES.out
                rw [HRC.out, HPQ.out.1, HPQ.out.2] at hn1
                have hn2 : byAll [x, y] C0 = none := by rw [← HL2.out.1, HRB.out, HST.out]
                refine ⟨_, by rw [unify_by HNM.out HL.out hn1 hn2]; rfl, ?_, T4.out.iv.below⟩
                rw [unify_by HNM.out HL.out hn1 hn2]
                exact Kd.R_nil _ _ _ _ _
        · have hltb : decide (i < 2) = false := decide_eq_false hlt
          have HRC2 := Aside0.mk (show rb = some C by
            have h1 := HA.out
            have h2 := HK.out
            have h3 := HL2.out.2.1
            rw [show i.toNat = L2.length by omega, List.drop_length] at h1
            exact h1.symm)
          clear hlt
          have hPl : P.length = p.length + 1 := by rw [HPQ.out.1]; rfl
          have hQl : Q.length = q.length + 1 := by rw [HPQ.out.2]; rfl
          have HPL := Aside0.mk hPl
          have HQL := Aside0.mk hQl
          clear hPl hQl
          go_wp2_with (first
            | ((with_reducible refine gate_builtin (b := .append) (xs := #[.tmp 80, .tmp 81]) rfl ?_); at_builtin; refine Kd.R_append_rows k23 (w0 := w) w.heap.size rfl (.tmp 80) (.tmp 81) 24 23 (.agg #[(.int .i64 0), (.int .i64 0), (.string ⟨#[]⟩)]) 32 rfl Tryd.underlying24 info23 rfl (by decide) (by omega) (.slice Ax P.length cx) P Q Ay Q.length cy (fun k => k ≠ b ∧ k ≠ wr.heap.size) (fun _ => False) ?hs ?hx (Kd.R_alloc (Kd.R_mono (Kd.R_bound U.out.left) (fun k hk => ⟨hk.1, by have := hk.2.2.1; omega⟩)) _) ?aR (fun _ _ h => h) (fun _ h => h.elim) ?aF (below_alloc U.out.below _) ?aS ?aL ?_; (case hs => (rw [HPL.out]; rfl)); (case hx => (rw [HQL.out]; rfl)); (case aR => exact (R_C (Kd.R_alloc U.out.right _))); (case aF => intro k hk; have h1 := U.out.m.lt; simp at hk; exact ⟨by omega, by omega⟩); (case aS => exact below_size (below_alloc U.out.below _)); (case aL => have h1 := HNN.out; simp only [smallN] at h1; omega); intro vl w4 ho hb hg hat; obtain ⟨Am, cm, rfl⟩ := Kd.R_slice ho; have HV := Aside0.mk (VInv.made U.out ho hb hg); clear ho hb hg hat; obtain ⟨L3, hL3⟩ : ∃ L3, L3 = P ++ Q := ⟨_, rfl⟩; rw [← hL3] at HV ⊢; have HL3 := Aside0.mk (show L3 = P ++ Q ∧ L3.length = 2 * P.length ∧ L3.all okT = true by rw [hL3]; refine ⟨rfl, by have := HNN.out.1; simp; omega, ?_⟩; rw [List.all_append, OP.out, OQ.out]; rfl); clear hL3)
            | go_in)
          have GB' := Aside0.mk (Nat.lt_of_lt_of_le U.out.m.lt (Nat.le_refl _))
          have NBB := Aside0.mk (show b ≠ wr.heap.size by have := U.out.m.lt; omega)
          have NBL := Aside0.mk U.out.m.lt
          clear U RL
          generalize wr.heap.size = b' at *
          have HX0 := Aside0.mk (show ((n : Nat) : Int) ≤ 3 * P.length + 2 + 0 by have h1 := HNI.out; have h2 := HK.out; omega)
          obtain ⟨fin, hfin⟩ : ∃ fin, finU L3 C [] = fin := ⟨_, rfl⟩
          have HFIN := Aside0.mk hfin
          obtain ⟨C1, hC1⟩ : ∃ C1, C1 = C := ⟨_, rfl⟩
          rw [← hC1] at HV HFIN HRC2
          have HFIN2 := Aside0.mk HFIN.out
          clear hC1 hfin
          go_loopg [84] L3.length (fun gg s84 wr => ∃ (i : Int) (n n2 : Nat) (D : DataW Tm) (C : Cl) (m : List Bd), s84 = .int .i64 i ∧ Aside0 (0 ≤ i ∧ i ≤ (L3.length : Int) ∧ (L3.length : Int) - i ≤ (gg : Int)) ∧ Aside0 ((n : Int) ≤ 3 * P.length + 2 + i) ∧ Aside0 ((n2 : Int) ≤ i) ∧ Aside0 (finU (L3.drop i.toNat) C m = fin) ∧ Aside0 (VInv w wr b n D C b' n2 m L3 Am cm))
          case atStart => exact ⟨0, n, 0, D, C1, [], rfl, ⟨by omega, by omega, by omega⟩, HX0, ⟨by omega⟩, HFIN, HV⟩
          case round =>
            clear HV HX0 HFIN HNI HK HA
            obtain ⟨i, n, n2, D, C, m, rfl, HK, HNI, HN2I, HA, V⟩ := hrel
            by_cases hlt : i < (L3.length : Int)
            · have hltb : decide (i < (L3.length : Int)) = true := decide_eq_true hlt
              have hpos : 0 ≤ i := HK.out.1
              have HLT := Aside0.mk (show i.toNat < L3.length by omega)
              have HPOS := Aside0.mk hpos
              obtain ⟨ad, e0, h0, h1, h2⟩ := at_T23 (Kd.R_reads' V.out.l).2.2 i hpos hlt
              cases e0
              have hst := finU_step HLT.out C m
              have hot : okT (rd_T23 L3 i) = true := by
                rw [show rd_T23 L3 i = L3[i.toNat]'HLT.out from by simp [rd_T23, List.getD_eq_getElem?_getD, List.getElem?_eq_getElem HLT.out]]
                exact List.all_eq_true.1 HL3.out.2.2 _ (List.getElem_mem HLT.out)
              rw [HA.out, show L3[i.toNat]'HLT.out = rd_T23 L3 i from by simp [rd_T23, List.getD_eq_getElem?_getD, List.getElem?_eq_getElem HLT.out]] at hst
              generalize rd_T23 L3 i = t at *
              have OT := Aside0.mk hot
              have HIN := Aside0.mk (show inI t.f1 = true by have := hot; simp only [okT, Bool.and_eq_true] at this; exact this.2.1)
              obtain ⟨tp, htp⟩ : ∃ tp, topF C t = tp := ⟨_, rfl⟩
              obtain ⟨u, C2⟩ := tp
              rw [htp] at hst
              have HTP := Aside0.mk htp
              have hwr : wrap64 (i + 1) = i + 1 := by have h1 := HNN.out.2; have h2 := HL3.out.2.1; simp only [smallN] at h1; simp only [wrap64]; omega
              have HN1 := Aside0.mk (show n < maxLen by have h0 := HNI.out; have h1 := HNN.out.2; have h2 := HL3.out.2.1; simp only [smallN] at h1; simp only [maxLen]; omega)
              have HN2 := Aside0.mk (show n2 < maxLen by have h0 := HN2I.out; have h1 := HNN.out.2; have h2 := HL3.out.2.1; simp only [smallN] at h1; simp only [maxLen]; omega)
              have hlt' := eq_true hlt
              have hpos' := eq_true hpos
              clear hlt hpos hot htp
              cases htv : isVar t with
              | false =>
                have VT := Aside0.mk ((var_f t).trans (congrArg some htv))
                have HST := Aside0.mk (show finU (L3.drop (i.toNat + 1)) C2 m = fin by rw [hst, htv]; rfl)
                clear hst htv
                go_wp2_with (first
                  | (go_at_call 27; (with_reducible refine (term_Variable.calls t.f0 t.f1 t.f2 false _ VT.out).mono ?_); rintro e w9 ⟨rfl, hb⟩; have T2 := Aside0.mk ((WInv.mk (VB.out.up (below_alloc (Below.refl _ _) _)) (blk_alloc KT.out _) (blk_new w8 _)).up hb); clear hb ta0 ta1 ta2; have ub0 := (blk_cell T2.out.k15 0).trans rfl; have ub1 := (blk_cell T2.out.k15 1).trans rfl; have ub2 := (blk_cell T2.out.k15 2).trans rfl; have uc0 := (blk_cell T2.out.k16 0).trans rfl; have uc1 := (blk_cell T2.out.k16 1).trans rfl; have uc2 := (blk_cell T2.out.k16 2).trans rfl)
                  | (go_at_call 60; (with_reducible refine (top_calls3 b n D C t u C2 _ (V.out.up (below_alloc (Below.refl _ _) _)).mc V.out.cls V.out.inv OT.out HN1.out HTP.out).mono ?_); rintro e w8 ⟨D2, rfl, hC2, hI2, hou, hm2, hg2⟩; have VB := Aside0.mk ((V.out.up (below_alloc (Below.refl _ _) _)).turn GB.out NBB.out hg2 hm2 hC2 hI2); have KT := Aside0.mk (blk_grown (blk_new wr _) hg2 (by have := V.out.mc.lt; simp; omega)); clear hC2 hI2 hou hm2 hg2; have ta0 := fun o => (blk_cell (blk_alloc KT.out o) 0).trans rfl; have ta1 := fun o => (blk_cell (blk_alloc KT.out o) 1).trans rfl; have ta2 := fun o => (blk_cell (blk_alloc KT.out o) 2).trans rfl)
                  | go_in)
                go_roundg (L3.length - (i.toNat + 1))
                case measure => have := HK.out; have := HLT.out; omega
                case rel =>
                  refine ⟨i + 1, n + 1, n2, D2, C2, m, by first | rfl | (simp [hwr]; done) | go_num, ⟨by have := HPOS.out; omega, by have := HLT.out; omega, by have := HLT.out; have := HPOS.out; omega⟩, ⟨by have := HNI.out; push_cast; omega⟩, ⟨by have := HN2I.out; push_cast; omega⟩, ⟨?_⟩, ⟨T2.out.iv⟩⟩
                  rw [show (i + 1).toNat = i.toNat + 1 by have := HPOS.out; omega]
                  exact HST.out
              | true =>
                have VT := Aside0.mk ((var_f t).trans (congrArg some htv))
                cases he : eqT u t with
                | true =>
                  have HST := Aside0.mk (show finU (L3.drop (i.toNat + 1)) C2 m = fin by rw [hst, htv, he]; rfl)
                  have he1 : (u.f0 == t.f0 && (u.f1 == t.f1 && (u.f2.toList == t.f2.toList))) = true := he
                  have he2 : (!(u.f0 == t.f0) || (!(u.f1 == t.f1) || !(u.f2.toList == t.f2.toList))) = false := by have h1 := congrArg Bool.not he1; simpa only [Bool.not_and, Bool.not_false, Bool.not_true] using h1
                  clear hst htv he
                  go_wp2_with (first
                    | (go_at_call 27; (with_reducible refine (term_Variable.calls t.f0 t.f1 t.f2 true _ VT.out).mono ?_); rintro e w9 ⟨rfl, hb⟩; have T2 := Aside0.mk ((WInv.mk (VB.out.up (below_alloc (Below.refl _ _) _)) (blk_alloc KT.out _) (blk_new w8 _)).up hb); clear hb ta0 ta1 ta2; have ub0 := (blk_cell T2.out.k15 0).trans rfl; have ub1 := (blk_cell T2.out.k15 1).trans rfl; have ub2 := (blk_cell T2.out.k15 2).trans rfl; have uc0 := (blk_cell T2.out.k16 0).trans rfl; have uc1 := (blk_cell T2.out.k16 1).trans rfl; have uc2 := (blk_cell T2.out.k16 2).trans rfl)
                    | (go_at_call 60; (with_reducible refine (top_calls3 b n D C t u C2 _ (V.out.up (below_alloc (Below.refl _ _) _)).mc V.out.cls V.out.inv OT.out HN1.out HTP.out).mono ?_); rintro e w8 ⟨D2, rfl, hC2, hI2, hou, hm2, hg2⟩; have VB := Aside0.mk ((V.out.up (below_alloc (Below.refl _ _) _)).turn GB.out NBB.out hg2 hm2 hC2 hI2); have KT := Aside0.mk (blk_grown (blk_new wr _) hg2 (by have := V.out.mc.lt; simp; omega)); clear hC2 hI2 hou hm2 hg2; have ta0 := fun o => (blk_cell (blk_alloc KT.out o) 0).trans rfl; have ta1 := fun o => (blk_cell (blk_alloc KT.out o) 1).trans rfl; have ta2 := fun o => (blk_cell (blk_alloc KT.out o) 2).trans rfl)
                    | go_in)
                  go_roundg (L3.length - (i.toNat + 1))
                  case measure => have := HK.out; have := HLT.out; omega
                  case rel =>
                    refine ⟨i + 1, n + 1, n2, D2, C2, m, by first | rfl | (simp [hwr]; done) | go_num, ⟨by have := HPOS.out; omega, by have := HLT.out; omega, by have := HLT.out; have := HPOS.out; omega⟩, ⟨by have := HNI.out; push_cast; omega⟩, ⟨by have := HN2I.out; push_cast; omega⟩, ⟨?_⟩, ⟨T2.out.iv⟩⟩
                    rw [show (i + 1).toNat = i.toNat + 1 by have := HPOS.out; omega]
                    exact HST.out
                | false =>
                  have HST := Aside0.mk (show finU (L3.drop (i.toNat + 1)) C2 (putM t.f1 u m) = fin by rw [hst, htv, he]; rfl)
                  have he1 : (u.f0 == t.f0 && (u.f1 == t.f1 && (u.f2.toList == t.f2.toList))) = false := he
                  have he2 : (!(u.f0 == t.f0) || (!(u.f1 == t.f1) || !(u.f2.toList == t.f2.toList))) = true := by have h1 := congrArg Bool.not he1; simpa only [Bool.not_and, Bool.not_false, Bool.not_true] using h1
                  clear hst htv he
                  go_wp2_with (first
                    | (at_mapUpdate; refine upd_event _ rfl _ _ _ rfl b' n2 m t.f1 u rfl T2.out.iv.mm T2.out.iv.ris HN2.out rfl rfl HIN.out ?_; intro w10 hm3 hg3; have T3 := Aside0.mk (T2.out.iv.put hm3 hg3 (Nat.le_trans GB.out (Nat.le_of_lt NBL.out)) NBB.out); clear hm3 hg3)
                    | (go_at_call 27; (with_reducible refine (term_Variable.calls t.f0 t.f1 t.f2 true _ VT.out).mono ?_); rintro e w9 ⟨rfl, hb⟩; have T2 := Aside0.mk ((WInv.mk (VB.out.up (below_alloc (Below.refl _ _) _)) (blk_alloc KT.out _) (blk_new w8 _)).up hb); clear hb ta0 ta1 ta2; have ub0 := (blk_cell T2.out.k15 0).trans rfl; have ub1 := (blk_cell T2.out.k15 1).trans rfl; have ub2 := (blk_cell T2.out.k15 2).trans rfl; have uc0 := (blk_cell T2.out.k16 0).trans rfl; have uc1 := (blk_cell T2.out.k16 1).trans rfl; have uc2 := (blk_cell T2.out.k16 2).trans rfl)
                    | (go_at_call 60; (with_reducible refine (top_calls3 b n D C t u C2 _ (V.out.up (below_alloc (Below.refl _ _) _)).mc V.out.cls V.out.inv OT.out HN1.out HTP.out).mono ?_); rintro e w8 ⟨D2, rfl, hC2, hI2, hou, hm2, hg2⟩; have VB := Aside0.mk ((V.out.up (below_alloc (Below.refl _ _) _)).turn GB.out NBB.out hg2 hm2 hC2 hI2); have KT := Aside0.mk (blk_grown (blk_new wr _) hg2 (by have := V.out.mc.lt; simp; omega)); clear hC2 hI2 hou hm2 hg2; have ta0 := fun o => (blk_cell (blk_alloc KT.out o) 0).trans rfl; have ta1 := fun o => (blk_cell (blk_alloc KT.out o) 1).trans rfl; have ta2 := fun o => (blk_cell (blk_alloc KT.out o) 2).trans rfl)
                    | go_in)
                  go_roundg (L3.length - (i.toNat + 1))
                  case measure => have := HK.out; have := HLT.out; omega
                  case rel =>
                    refine ⟨i + 1, n + 1, n2 + 1, D2, C2, putM t.f1 u m, by first | rfl | (simp [hwr]; done) | go_num, ⟨by have := HPOS.out; omega, by have := HLT.out; omega, by have := HLT.out; have := HPOS.out; omega⟩, ⟨by have := HNI.out; push_cast; omega⟩, ⟨by have := HN2I.out; push_cast; omega⟩, ⟨?_⟩, ⟨T3.out⟩⟩
                    rw [show (i + 1).toNat = i.toNat + 1 by have := HPOS.out; omega]
                    exact HST.out
            · have hltb : decide (i < (L3.length : Int)) = false := decide_eq_false hlt
              have HFM := Aside0.mk (show fin = m by
                have h1 := HA.out
                have h2 := HK.out
                rw [show i.toNat = L3.length by omega, List.drop_length] at h1
                exact h1.symm)
              clear hlt
              have hso := term_sorted.calls b' n2 m wr V.out.mm V.out.ris (by have h1 := ownsMap_len V.out.mm; have h2 := HN2I.out; have h3 := HNN.out.2; have h4 := HL3.out.2.1; have h5 := HK.out; simp only [smallN] at h3; omega)
              go_wp2_with (go_at_call 51; refine hso.mono ?_; rintro e w5 ⟨v5, rfl, hR5, hb5⟩)
              go_ret2
              have hn1 := HRES.out
              rw [HRC.out, HPQ.out.1, HPQ.out.2] at hn1
              have hn2 : byAll [x, y] C0 = some C1 := by rw [← HL2.out.1, HRB.out, HRC2.out]
              have hn3 : finU ((x :: p) ++ (y :: q)) C1 [] = m := by rw [← HPQ.out.1, ← HPQ.out.2, ← HL3.out.1, HFIN2.out, HFM.out]
              refine ⟨_, by rw [unify_some HNM.out HL.out hn1 hn2]; rfl, ?_, below_step V.out.below hb5⟩
              rw [unify_some HNM.out HL.out hn1 hn2]
              rw [hn3]
              exact Kd.R_lower hR5 V.out.below.size
set_option maxHeartbeats 4000000 in
set_option maxRecDepth 100000 in
theorem unify_no (x y : Tm) (n0 n1 : ByteArray) (A0 : Option Addr) (c0 : Nat) (p : List Tm) (A1 : Option Addr) (c1 : Nat) (q : List Tm) (w : World) (bn : Bool)
    (hn : (n0.toList == n1.toList) = bn) (hl : bn = true → p.length ≠ q.length) :
    Calls Tryd.prog 29 #[.agg #[.int .i64 x.f0, .int .i64 x.f1, .string x.f2, .string n0, .slice A0 p.length c0], .agg #[.int .i64 y.f0, .int .i64 y.f1, .string y.f2, .string n1, .slice A1 q.length c1]] w fun e w' => ∃ v0_ : Value, e = .returned (.tuple #[v0_, .bool (unifyL n0 p n1 q x y).2]) ∧ Kd.R k44 44 w' w.heap.size (fun _ => True) v0_ (unifyL n0 p n1 q x y).1 ∧ Below w.heap.size w w' := by
  have hu26 := Tryd.underlying26
  have hu23 := Tryd.underlying23
  have HNU : Aside0 (unifyL n0 p n1 q x y = ([], false)) := ⟨by
    unfold unifyL
    rw [if_pos]
    cases bn with
    | false => exact Or.inl (by simpa using hn)
    | true => exact Or.inr (hl rfl)⟩
  cases bn with
  | true =>
    have hne := hl rfl
    have hle : ((p.length : Int) == (q.length : Int)) = false := by simp; omega
    have hln : ((p.length : Int) != (q.length : Int)) = true := by simp; omega
    have hnn : (n0.toList != n1.toList) = false := by simpa using hn
    clear hl hne
    go_enter Tryd.func29, Tryd.ntmps29
    go_wp2_with (first
      | ((with_reducible refine gate_dst (N := 2) rfl ?_); refine box_event ?hg (N := 2) ?hd (cs := #[.int .i64 x.f0, .int .i64 x.f1, .string x.f2, .string n0, .slice A0 p.length c0]) (t := 26) ?hr ?_; (case hd => rfl); (case hg => rfl); (case hr => first | (go_simp; done) | (go_simp; rfl)); intro b2 hb2 w1 hbox hb; have K2 := Aside0.mk hbox; have HB1 := Aside0.mk hb; clear hb2 hbox hb)
      | ((with_reducible refine gate_dst (N := 3) rfl ?_); refine box_event ?hg (N := 3) ?hd (cs := #[.int .i64 y.f0, .int .i64 y.f1, .string y.f2, .string n1, .slice A1 q.length c1]) (t := 26) ?hr ?_; (case hd => rfl); (case hg => rfl); (case hr => first | (go_simp; done) | (go_simp; rfl)); intro b3 hb3 w2 hbox hb; have K22 := Aside0.mk (blk_below K2.out hb); have K32 := Aside0.mk hbox; have HB2 := Aside0.mk (below_step HB1.out hb); clear hb3 hbox hb K2 HB1; have p0 := (blk_cell K22.out 0).trans rfl; have p1 := (blk_cell K22.out 1).trans rfl; have p2 := (blk_cell K22.out 2).trans rfl; have p3 := (blk_cell K22.out 3).trans rfl; have p4 := (blk_cell K22.out 4).trans rfl; have q0 := (blk_cell K32.out 0).trans rfl; have q1 := (blk_cell K32.out 1).trans rfl; have q2 := (blk_cell K32.out 2).trans rfl; have q3 := (blk_cell K32.out 3).trans rfl; have q4 := (blk_cell K32.out 4).trans rfl)
      | go_in)
    go_ret2
    refine ⟨_, by rw [HNU.out]; rfl, ?_, HB2.out⟩
    rw [HNU.out]
    exact Kd.R_nil _ _ _ _ _
  | false =>
    have hnn : (n0.toList != n1.toList) = true := by simpa using hn
    clear hl
    go_enter Tryd.func29, Tryd.ntmps29
    go_wp2_with (first
      | ((with_reducible refine gate_dst (N := 2) rfl ?_); refine box_event ?hg (N := 2) ?hd (cs := #[.int .i64 x.f0, .int .i64 x.f1, .string x.f2, .string n0, .slice A0 p.length c0]) (t := 26) ?hr ?_; (case hd => rfl); (case hg => rfl); (case hr => first | (go_simp; done) | (go_simp; rfl)); intro b2 hb2 w1 hbox hb; have K2 := Aside0.mk hbox; have HB1 := Aside0.mk hb; clear hb2 hbox hb)
      | ((with_reducible refine gate_dst (N := 3) rfl ?_); refine box_event ?hg (N := 3) ?hd (cs := #[.int .i64 y.f0, .int .i64 y.f1, .string y.f2, .string n1, .slice A1 q.length c1]) (t := 26) ?hr ?_; (case hd => rfl); (case hg => rfl); (case hr => first | (go_simp; done) | (go_simp; rfl)); intro b3 hb3 w2 hbox hb; have K22 := Aside0.mk (blk_below K2.out hb); have K32 := Aside0.mk hbox; have HB2 := Aside0.mk (below_step HB1.out hb); clear hb3 hbox hb K2 HB1; have p0 := (blk_cell K22.out 0).trans rfl; have p1 := (blk_cell K22.out 1).trans rfl; have p2 := (blk_cell K22.out 2).trans rfl; have p3 := (blk_cell K22.out 3).trans rfl; have p4 := (blk_cell K22.out 4).trans rfl; have q0 := (blk_cell K32.out 0).trans rfl; have q1 := (blk_cell K32.out 1).trans rfl; have q2 := (blk_cell K32.out 2).trans rfl; have q3 := (blk_cell K32.out 3).trans rfl; have q4 := (blk_cell K32.out 4).trans rfl)
      | go_in)
    go_ret2
    refine ⟨_, by rw [HNU.out]; rfl, ?_, HB2.out⟩
    rw [HNU.out]
    exact Kd.R_nil _ _ _ _ _
theorem term_Unify.calls (a0_0 : Int) (a0_1 : Int) (a0_2 : ByteArray) (a0_3 : ByteArray) (A0_4 : Option Addr) (c0_4 : Nat) (l0_4 : List Tm) (a1_0 : Int) (a1_1 : Int) (a1_2 : ByteArray) (a1_3 : ByteArray) (A1_4 : Option Addr) (c1_4 : Nat) (l1_4 : List Tm) (r1 : List Bd) (r2 : Bool) (w : World) (hr0_4 : Kd.C k23 w A0_4 l0_4.length l0_4) (hc0_4 : l0_4.length ≤ c0_4) (hr1_4 : Kd.C k23 w A1_4 l1_4.length l1_4) (hc1_4 : l1_4.length ≤ c1_4) (h : term_Unify.f a0_0 a0_1 a0_2 a0_3 l0_4 a1_0 a1_1 a1_2 a1_3 l1_4 = some (r1, r2)) :
    Calls Tryd.prog 29 #[.agg #[.int .i64 a0_0, .int .i64 a0_1, .string a0_2, .string a0_3, .slice A0_4 l0_4.length c0_4], .agg #[.int .i64 a1_0, .int .i64 a1_1, .string a1_2, .string a1_3, .slice A1_4 l1_4.length c1_4]] w fun e w' => ∃ v0_ : Value, e = .returned (.tuple #[v0_, .bool r2]) ∧ Kd.R k44 44 w' w.heap.size (fun _ => True) v0_ r1 ∧ Below w.heap.size w w' := by
  unfold term_Unify.f at h
  by_cases hg : (okT ⟨a0_0, a0_1, a0_2⟩ && okT ⟨a1_0, a1_1, a1_2⟩ && l0_4.all okT && l1_4.all okT && decide (l0_4.length < smallN) && decide (l1_4.length < smallN)) = true
  · rw [if_pos hg] at h
    injection h with h
    obtain ⟨rfl, rfl⟩ := Prod.mk.inj h.symm
    simp only [Bool.and_eq_true, decide_eq_true_eq] at hg
    obtain ⟨⟨⟨⟨⟨h1, h2⟩, h3⟩, h4⟩, h5⟩, h6⟩ := hg
    cases hn : (a0_3.toList == a1_3.toList) with
    | false => exact unify_no ⟨a0_0, a0_1, a0_2⟩ ⟨a1_0, a1_1, a1_2⟩ a0_3 a1_3 A0_4 c0_4 l0_4 A1_4 c1_4 l1_4 w false hn (fun h => by cases h)
    | true =>
      by_cases hl : l0_4.length = l1_4.length
      · exact unify_go ⟨a0_0, a0_1, a0_2⟩ ⟨a1_0, a1_1, a1_2⟩ a0_3 a1_3 A0_4 c0_4 l0_4 A1_4 c1_4 l1_4 w hr0_4 hc0_4 hr1_4 hc1_4 h1 h2 h3 h4 h5 h6 hn hl
      · exact unify_no ⟨a0_0, a0_1, a0_2⟩ ⟨a1_0, a1_1, a1_2⟩ a0_3 a1_3 A0_4 c0_4 l0_4 A1_4 c1_4 l1_4 w true hn (fun _ => hl)
  · rw [if_neg hg] at h
    cases h
end Go.Proofs.YtnomgmlfagiffaaDoor.T
/- The length of what Unify answers, plainly. -/
set_option linter.unusedVariables false
set_option linter.unusedSimpArgs false
namespace Go.Proofs.YtnomgmlfagiffaaDoor.T
open Go.RowKit Go.Lib Go.Proofs.YtnomgmlfagiffaaDoorW.PrintWords
theorem unifyL_len (n0 n1 : ByteArray) (p q : List Tm) (x y : Tm) : (unifyL n0 p n1 q x y).1.length ≤ p.length + q.length + 2 := by
  unfold unifyL
  split
  · simp
  · split
    · simp
    · split
      · simp
      · have : ∀ (L : List Tm) (C : Cl) (m : List Bd), (finU L C m).length ≤ m.length + L.length := by
          intro L
          induction L with
          | nil => intro C m; simp [finU]
          | cons t L ih =>
            intro C m
            unfold finU
            refine Nat.le_trans (ih _ _) ?_
            split
            · have := putM_len t.f1 (topF C t).1 m
              simp only [List.length_cons]
              omega
            · simp only [List.length_cons]
              omega
        refine Nat.le_trans (this _ _ _) ?_
        simp
        omega
end Go.Proofs.YtnomgmlfagiffaaDoor.T
/- The walk of TermUnified. -/
set_option linter.unusedVariables false
set_option linter.unusedSimpArgs false
namespace Go.Proofs.YtnomgmlfagiffaaDoor.T
open Go.RowKit Go.Proofs.YtnomgmlfagiffaaDoorW.PrintWords Go.Proofs.YtnomgmlfagiffaaDoorW.PrintLast
/-- What the walk carries: nothing old has turned, the lent lists are as they were made. -/
structure NInv (w W : World) (l m : List Tm) (g1 d1 g2 d2 : Nat) : Prop where
  below : Below w.heap.size w W
  x : Kd.R k23 23 W w.heap.size (fun _ => True) (.slice (some ⟨g1, 0, none⟩) (l.length + 1) d1) (l ++ [markT])
  y : Kd.R k23 23 W w.heap.size (fun _ => True) (.slice (some ⟨g2, 0, none⟩) (m.length + 1) d2) (m ++ [markT])
theorem NInv.up {w W W' : World} {l m : List Tm} {g1 d1 g2 d2 : Nat} (h : NInv w W l m g1 d1 g2 d2) (hb : Below W.heap.size W W') : NInv w W' l m g1 d1 g2 d2 :=
  ⟨below_step h.below hb, Kd.R_below h.x hb, Kd.R_below h.y hb⟩
set_option maxHeartbeats 4000000 in
set_option maxRecDepth 100000 in
theorem unified_calls (t : Tm) (nm : ByteArray) (l : List Tm) (A0 : Option Addr) (c0 : Nat) (u : Tm) (nn : ByteArray) (m : List Tm) (A1 : Option Addr) (c1 : Nat) (w : World)
    (hr0 : Kd.C k23 w A0 l.length l) (hc0 : l.length ≤ c0) (hr1 : Kd.C k23 w A1 m.length m) (hc1 : m.length ≤ c1)
    (ot : okT t = true) (ol : l.all okT = true) (ou : okT u = true) (om : m.all okT = true) (hLm : Laid1 w) (hsum : 8 * l.length + 8 * m.length + 24 < smallN) :
    Calls Tryd.prog 6 #[.agg #[.int .i64 t.f0, .int .i64 t.f1, .string t.f2, .string nm, .slice A0 l.length c0], .agg #[.int .i64 u.f0, .int .i64 u.f1, .string u.f2, .string nn, .slice A1 m.length c1]] w fun e w' => e = .returned (.bool true) ∧ Below w.heap.size w w' := by
  have hu26 := Tryd.underlying26
  have hu23 := Tryd.underlying23
  have H0 := Aside0.mk (show Kd.C k23 w A0 l.length l ∧ l.length ≤ c0 from ⟨hr0, hc0⟩)
  have H1 := Aside0.mk (show Kd.C k23 w A1 m.length m ∧ m.length ≤ c1 from ⟨hr1, hc1⟩)
  have HM := Aside0.mk hLm
  have HS := Aside0.mk (show l.length < smallN ∧ m.length < smallN from ⟨by omega, by omega⟩)
  obtain ⟨r, hr⟩ : ∃ r, unifyL nm l nn m t u = r := ⟨_, rfl⟩
  obtain ⟨r1, r2⟩ := r
  have hlen : r1.length < 3298534883328 := by
    have := unifyL_len nm nn l m t u
    rw [hr] at this
    simp only [smallN] at hsum
    simp only at this
    omega
  have HLN := Aside0.mk hlen
  have hf : term_Unify.f t.f0 t.f1 t.f2 nm l u.f0 u.f1 u.f2 nn m = some (r1, r2) := by
    unfold term_Unify.f
    rw [if_pos (by simp [ot, ou, ol, om, HS.out.1, HS.out.2]), hr]
  obtain ⟨K, hK⟩ := runify_f t u nm nn l m hsum
  have hg := hK K (Nat.le_refl _)
  rw [hr] at hg
  have HF := Aside0.mk hf
  have HG := Aside0.mk hg
  clear hr0 hc0 hr1 hc1 ot ol ou om hLm hsum hf hK hg hr hlen
  go_enter Tryd.func6, Tryd.ntmps6
  go_wp2_with (first
    | ((with_reducible refine gate_dst (N := 2) rfl ?_); refine box_event ?hg (N := 2) ?hd (cs := #[.int .i64 t.f0, .int .i64 t.f1, .string t.f2, .string nm, .slice A0 l.length c0]) (t := 26) ?hr ?_; (case hd => rfl); (case hg => rfl); (case hr => first | (go_simp; done) | (go_simp; rfl)); intro b3 hb3 w00 hbox hb; have K30 := Aside0.mk hbox; have HB00 := Aside0.mk hb; clear hb3 hbox hb)
    | ((with_reducible refine gate_dst (N := 3) rfl ?_); refine box_event ?hg (N := 3) ?hd (cs := #[.int .i64 u.f0, .int .i64 u.f1, .string u.f2, .string nn, .slice A1 m.length c1]) (t := 26) ?hr ?_; (case hd => rfl); (case hg => rfl); (case hr => first | (go_simp; done) | (go_simp; rfl)); intro b4 hb4 w1 hbox hb; have K31 := Aside0.mk (blk_below K30.out hb); have K41 := Aside0.mk hbox; have HB1 := Aside0.mk (below_step HB00.out hb); clear hb4 hbox hb K30 HB00; have p0 := (blk_cell K31.out 0).trans rfl; have p1 := (blk_cell K31.out 1).trans rfl; have p2 := (blk_cell K31.out 2).trans rfl; have p3 := (blk_cell K31.out 3).trans rfl; have p4 := (blk_cell K31.out 4).trans rfl)
    | (go_at_call 13; refine (lent_calls t nm A0 c0 l _ (Kd.C_below H0.out.1 HB1.out) H0.out.2 (Laid1.up HM.out HB1.out) HS.out.1).mono ?_; rintro e w2 ⟨g1, d1, rfl, hR, hb⟩; have RX := Aside0.mk (Kd.R_lower hR HB1.out.size); have HB2 := Aside0.mk (below_step HB1.out hb); have K32 := Aside0.mk (blk_below K31.out hb); have K42 := Aside0.mk (blk_below K41.out hb); clear hR hb K31 K41 HB1 p0 p1 p2 p3 p4; have q0 := (blk_cell K42.out 0).trans rfl; have q1 := (blk_cell K42.out 1).trans rfl; have q2 := (blk_cell K42.out 2).trans rfl; have q3 := (blk_cell K42.out 3).trans rfl; have q4 := (blk_cell K42.out 4).trans rfl; have qa0 := fun o => (blk_cell (blk_alloc K42.out o) 0).trans rfl; have qa1 := fun o => (blk_cell (blk_alloc K42.out o) 1).trans rfl; have qa2 := fun o => (blk_cell (blk_alloc K42.out o) 2).trans rfl; have qa3 := fun o => (blk_cell (blk_alloc K42.out o) 3).trans rfl; have qa4 := fun o => (blk_cell (blk_alloc K42.out o) 4).trans rfl)
    | (go_at_call 13; refine (lent_calls u nn A1 c1 m _ (Kd.C_below H1.out.1 (below_alloc HB2.out _)) H1.out.2 (Laid1.up HM.out (below_alloc HB2.out _)) HS.out.2).mono ?_; rintro e w3 ⟨g2, d2, rfl, hR, hb⟩; have II := Aside0.mk (NInv.mk (below_step (below_alloc HB2.out _) hb) (Kd.R_below RX.out (below_step (below_alloc (Below.refl _ w2) _) hb)) (Kd.R_lower hR (below_alloc HB2.out _).size)); have K33 := Aside0.mk (blk_below (blk_alloc K32.out _) hb); have K43 := Aside0.mk (blk_below (blk_alloc K42.out _) hb); have K83 := Aside0.mk (blk_below (blk_new w2 _) hb); clear hR hb K32 K42 RX HB2 q0 q1 q2 q3 q4 qa0 qa1 qa2 qa3 qa4; have x0 := (blk_cell K83.out 0).trans rfl; have x1 := (blk_cell K83.out 1).trans rfl; have x2 := (blk_cell K83.out 2).trans rfl; have x3 := (blk_cell K83.out 3).trans rfl; have x4 := (blk_cell K83.out 4).trans rfl; have xa0 := fun o => (blk_cell (blk_alloc K83.out o) 0).trans rfl; have xa1 := fun o => (blk_cell (blk_alloc K83.out o) 1).trans rfl; have xa2 := fun o => (blk_cell (blk_alloc K83.out o) 2).trans rfl; have xa3 := fun o => (blk_cell (blk_alloc K83.out o) 3).trans rfl; have xa4 := fun o => (blk_cell (blk_alloc K83.out o) 4).trans rfl)
    | (go_at_call 29; refine (term_Unify.calls t.f0 t.f1 t.f2 nm (some ⟨g1, 0, none⟩) d1 l u.f0 u.f1 u.f2 nn (some ⟨g2, 0, none⟩) d2 m r1 r2 _ (C_front (R_C' (II.out.up (below_alloc (Below.refl _ _) _)).x)) (by have := R_room II.out.x (by simp); simp at this; omega) (C_front (R_C' (II.out.up (below_alloc (Below.refl _ _) _)).y)) (by have := R_room II.out.y (by simp); simp at this; omega) HF.out).mono ?_; rintro e w4 ⟨va, rfl, hRa, hb⟩; obtain ⟨Aa, ca, rfl⟩ := Kd.R_slice hRa; have RA := Aside0.mk hRa; have I4 := Aside0.mk (II.out.up (below_step (below_alloc (Below.refl _ w3) _) hb)); have K34 := Aside0.mk (blk_below (blk_alloc K33.out _) hb); have K44 := Aside0.mk (blk_below (blk_alloc K43.out _) hb); have K84 := Aside0.mk (blk_below (blk_alloc K83.out _) hb); have K94 := Aside0.mk (blk_below (blk_new w3 _) hb); clear hRa hb K33 K43 K83 II x0 x1 x2 x3 x4 xa0 xa1 xa2 xa3 xa4; have p0 := (blk_cell K34.out 0).trans rfl; have p1 := (blk_cell K34.out 1).trans rfl; have p2 := (blk_cell K34.out 2).trans rfl; have p3 := (blk_cell K34.out 3).trans rfl; have p4 := (blk_cell K34.out 4).trans rfl; have q0 := (blk_cell K44.out 0).trans rfl; have q1 := (blk_cell K44.out 1).trans rfl; have q2 := (blk_cell K44.out 2).trans rfl; have q3 := (blk_cell K44.out 3).trans rfl; have q4 := (blk_cell K44.out 4).trans rfl)
    | (go_at_call 30; refine (hearsayref02_Unify.calls K t.f0 t.f1 t.f2 nm A0 c0 l u.f0 u.f1 u.f2 nn A1 c1 m r1 r2 _ (Kd.C_below H0.out.1 I4.out.below) H0.out.2 (Kd.C_below H1.out.1 I4.out.below) H1.out.2 HG.out).mono ?_; rintro e w5 ⟨vb, rfl, hRb, hb⟩; obtain ⟨Ab, cb, rfl⟩ := Kd.R_slice hRb; have RB := Aside0.mk hRb; have RA5 := Aside0.mk (Kd.R_below RA.out hb); have I5 := Aside0.mk (I4.out.up hb); have K35 := Aside0.mk (blk_below K34.out hb); have K45 := Aside0.mk (blk_below K44.out hb); have K85 := Aside0.mk (blk_below K84.out hb); have K95 := Aside0.mk (blk_below K94.out hb); clear hRb hb K34 K44 K84 K94 I4 RA p0 p1 p2 p3 p4 q0 q1 q2 q3 q4)
    | (go_at_call 16; refine (hearsaylaw02_bindings.calls (r1.length + 1) Aa ca r1 Ab cb r1 true _ (R_C' RA5.out) (R_cap RA5.out) (R_C' RB.out) (R_cap RB.out) (bindings_self2 r1 HLN.out _ (Nat.le_refl _))).mono ?_; rintro e w6 ⟨rfl, hd⟩; have hb := hd.below; have I7 := Aside0.mk (I5.out.up hb); have K37 := Aside0.mk (blk_below K35.out hb); have K47 := Aside0.mk (blk_below K45.out hb); have K87 := Aside0.mk (blk_below K85.out hb); have K97 := Aside0.mk (blk_below K95.out hb); clear hb hd K35 K45 K85 K95 I5 RA5 RB; have x0 := (blk_cell K87.out 0).trans rfl; have x1 := (blk_cell K87.out 1).trans rfl; have x2 := (blk_cell K87.out 2).trans rfl; have x3 := (blk_cell K87.out 3).trans rfl; have x4 := (blk_cell K87.out 4).trans rfl; have p0 := (blk_cell K37.out 0).trans rfl; have p1 := (blk_cell K37.out 1).trans rfl; have p2 := (blk_cell K37.out 2).trans rfl; have p3 := (blk_cell K37.out 3).trans rfl; have p4 := (blk_cell K37.out 4).trans rfl)
    | (go_at_call 18; refine (kept_calls t nm g1 d1 A0 c0 l _ w.heap.size I7.out.x (Kd.C_below H0.out.1 I7.out.below) H0.out.2 (Laid1.up HM.out I7.out.below) HS.out.1).mono ?_; rintro e w8 ⟨rfl, hb⟩; have I8 := Aside0.mk (I7.out.up hb); have K48 := Aside0.mk (blk_below K47.out hb); have K98 := Aside0.mk (blk_below K97.out hb); clear hb K37 K47 K87 K97 I7 x0 x1 x2 x3 x4 p0 p1 p2 p3 p4; have y0 := (blk_cell K98.out 0).trans rfl; have y1 := (blk_cell K98.out 1).trans rfl; have y2 := (blk_cell K98.out 2).trans rfl; have y3 := (blk_cell K98.out 3).trans rfl; have y4 := (blk_cell K98.out 4).trans rfl; have q0 := (blk_cell K48.out 0).trans rfl; have q1 := (blk_cell K48.out 1).trans rfl; have q2 := (blk_cell K48.out 2).trans rfl; have q3 := (blk_cell K48.out 3).trans rfl; have q4 := (blk_cell K48.out 4).trans rfl)
    | (go_at_call 18; refine (kept_calls u nn g2 d2 A1 c1 m _ w.heap.size I8.out.y (Kd.C_below H1.out.1 I8.out.below) H1.out.2 (Laid1.up HM.out I8.out.below) HS.out.2).mono ?_; rintro e w9 ⟨rfl, hb⟩; have I9 := Aside0.mk (I8.out.up hb); clear hb)
    | (go_at_call 19; refine (hearsaylaw02_first.calls true _ first_f).mono ?_; rintro e w11 ⟨rfl, hb⟩; have I11 := Aside0.mk (I9.out.up hb); clear hb)
    | go_in)
  go_ret
  exact ⟨rfl, I11.out.below⟩
end Go.Proofs.YtnomgmlfagiffaaDoor.T
