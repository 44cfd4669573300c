/- Rows of pairs and of digests: what is read out of them, at one operation. -/
import Derived.Test.YtoigoiefnapokaaDoorGKEnd
import Derived.DataElems
set_option linter.unusedVariables false
set_option linter.unusedSimpArgs false
namespace Go.Proofs.YtoigoiefnapokaaDoor.T
open Go.RowKit Go.Maps Go.MuLone Go.Proofs.YtoigoiefnapokaaDoorW.PrintWords Go.Proofs.YtoigoiefnapokaaDoorW.PrintLast
/-- A pair: a name's number and a digest. -/
abbrev Pr := Int × List Int
def kD : Kd (List Int) := Kd.arr 32 (Kd.int .u8) Nat.zero_lt_one
def kP : Kd Pr := Kd.pair (Kd.int .i64) kD
theorem kD_sz : kD.sz = 32 := rfl
theorem kP_sz : kP.sz = 33 := rfl
theorem kD_K {w : World} {d : List Int} {cs : List Value} (h : kD.K w d cs) : d.length = 32 ∧ cs = nums .u8 d := by
  obtain ⟨h1, h2⟩ := Kd.arr_cells h
  exact ⟨h1, h2⟩
theorem kP_K {w : World} {p : Pr} {cs : List Value} (h : kP.K w p cs) : p.2.length = 32 ∧ cs = .int .i64 p.1 :: nums .u8 p.2 := by
  obtain ⟨c0, c1, rfl, h0, h1⟩ := h
  obtain ⟨h2, rfl⟩ := kD_K h1
  refine ⟨h2, ?_⟩
  have h0' : c0 = [.int .i64 p.1] := h0
  rw [h0']
  rfl
theorem kD_M {w : World} {base : Nat} {ok : Nat → Prop} {d : List Int} (h : d.length = 32) : kD.M w base ok d (nums .u8 d) := Kd.arr_of_cells h
theorem kP_M {w : World} {base : Nat} {ok : Nat → Prop} {p : Pr} (h : p.2.length = 32) : kP.M w base ok p (.int .i64 p.1 :: nums .u8 p.2) := ⟨[.int .i64 p.1], nums .u8 p.2, rfl, rfl, kD_M h⟩
def pairP (p : Pr) : Value := .agg (.int .i64 p.1 :: nums .u8 p.2).toArray
/-- A row that is read. -/
structure RowP (w : World) (A : Option Addr) (ps : List Pr) : Prop where
  c : kP.C w A ps.length ps
theorem pair_at {w : World} {ad : Addr} {n : Nat} {ps : List Pr} (h : kP.C w (some ad) n ps) {i : Nat} {p : Pr} (hi : ps[i]? = some p) :
    w.cell? (ad.add (i * 33)) = some (.int .i64 p.1) ∧ (∀ j v, (nums IntKind.u8 p.2)[j]? = some v → w.cell? ((ad.add (i * 33 + 1)).add j) = some v) ∧ p.2.length = 32 := by
  obtain ⟨h1, h2, h3⟩ := h
  have hn : i < ps.length := (List.getElem?_eq_some_iff.1 hi).1
  obtain ⟨ad', had, hc⟩ := h3 (by omega)
  cases had
  obtain ⟨c, hl, hk, hcell⟩ := hc i p hi
  obtain ⟨hd, rfl⟩ := kP_K hk
  refine ⟨hcell 0 _ rfl, fun j v hj => ?_, hd⟩
  rw [Addr.add_add, show i * 33 + 1 + j = i * 33 + (j + 1) by omega]
  exact hcell (j + 1) v hj
theorem pair_all {w : World} {ad : Addr} {n : Nat} {ps : List Pr} (h : kP.C w (some ad) n ps) {i : Nat} {p : Pr} (hi : ps[i]? = some p) : ∀ j v, ((.int .i64 p.1 :: nums IntKind.u8 p.2 : List Value))[j]? = some v → w.cell? ((ad.add (i * 33)).add j) = some v := by
  obtain ⟨h1, h2, h3⟩ := h
  have hn : i < ps.length := (List.getElem?_eq_some_iff.1 hi).1
  obtain ⟨ad', had, hc⟩ := h3 (by omega)
  cases had
  obtain ⟨c, hl, hk, hcell⟩ := hc i p hi
  obtain ⟨hd, rfl⟩ := kP_K hk
  intro j v hj
  rw [Addr.add_add]
  exact hcell j v hj
theorem dig_at {w : World} {ad : Addr} {n : Nat} {ds : List (List Int)} (h : kD.C w (some ad) n ds) {i : Nat} {d : List Int} (hi : ds[i]? = some d) : (∀ j v, (nums IntKind.u8 d)[j]? = some v → w.cell? ((ad.add (i * 32)).add j) = some v) ∧ d.length = 32 := by
  obtain ⟨h1, h2, h3⟩ := h
  have hn : i < ds.length := (List.getElem?_eq_some_iff.1 hi).1
  obtain ⟨ad', had, hc⟩ := h3 (by omega)
  cases had
  obtain ⟨c, hl, hk, hcell⟩ := hc i d hi
  obtain ⟨hd, rfl⟩ := kD_K hk
  refine ⟨fun j v hj => ?_, hd⟩
  rw [Addr.add_add]
  exact hcell j v hj
/-! one operation's run -/
section
variable {o : Oper} {a : Act} {w : World}
theorem run_loadVar_any {P : Program} (w : World) (p : Addr) (ty : TypeId) (cs : List Value) (d : TypeDesc) (hc : ∀ j v, cs[j]? = some v → w.cell? (p.add j) = some v)
    (hu : P.underlying ty = some d) (hd : d.isRow = true) (hi : (P.info? ty).map (·.size) = some cs.length) :
    (loadVar ty p).run P w = .ok (.agg cs.toArray) w := by
  have hl : (loadCells p cs.length).run P w = .ok cs.toArray w := run_loadCells_list (P := P) w p cs hc
  cases hq : P.info? ty with
  | none => simp [hq] at hi
  | some i =>
    have hs : i.size = cs.length := by simpa [hq] using hi
    have hagg : (isAgg ty).run P w = .ok true w := by
      unfold isAgg
      rw [Sem.run_bind, run_underlying hu w]
      cases d <;> simp_all
    simp [loadVar, Sem.run_bind, hagg, sizeOf, typeInfo, hq, hs, hl]
theorem load_run (ty : TypeId) (x : Operand) (ho : o.op = .load ty x) (p : Addr) (hx : a.eval x = .pointer (some p)) (cs : List Value) (d : TypeDesc) (hc : ∀ j v, cs[j]? = some v → w.cell? (p.add j) = some v)
    (hu : Tryd.prog.underlying ty = some d) (hd : d.isRow = true) (hi : (Tryd.prog.info? ty).map (·.size) = some cs.length) : (execOp a.eval o).run Tryd.prog w = .ok (.value (.agg cs.toArray)) w := by
  unfold execOp
  simp only [ho, hx, Instr.loadAt, Instr.sureAddr, Sem.run_bind, Sem.run_pure, Result.andThen_ok, run_loadVar_any w p ty cs d hc hu hd hi]
theorem loadD_run (x : Operand) (ho : o.op = .load 27 x) (p : Addr) (hx : a.eval x = .pointer (some p)) (d : List Int) (hd : d.length = 32) (hc : ∀ j v, (nums IntKind.u8 d)[j]? = some v → w.cell? (p.add j) = some v) :
    (execOp a.eval o).run Tryd.prog w = .ok (.value (.agg (nums .u8 d).toArray)) w :=
  load_run 27 x ho p hx (nums .u8 d) _ hc Tryd.underlying27 rfl (by rw [nums_length, hd]; kernel_rfl)
theorem loadB_run (x : Operand) (ho : o.op = .load 27 x) (b : Nat) (hx : a.eval x = .pointer (some ⟨b, 0, none⟩)) (d : List Int) (hd : d.length = 32) {t : TypeId} (hb : w.heap[b]? = some (.cells (nums .u8 d).toArray t (0, 0))) :
    (execOp a.eval o).run Tryd.prog w = .ok (.value (.agg (nums .u8 d).toArray)) w :=
  loadD_run x ho _ hx d hd (fun j v hj => by rw [add_plain]; exact arr_cell hb j hj)
theorem loadP_run (x : Operand) (ho : o.op = .load 35 x) (p : Addr) (hx : a.eval x = .pointer (some p)) (q : Pr) (hd : q.2.length = 32) (hc : ∀ j v, ((.int .i64 q.1 :: nums IntKind.u8 q.2 : List Value))[j]? = some v → w.cell? (p.add j) = some v) :
    (execOp a.eval o).run Tryd.prog w = .ok (.value (pairP q)) w :=
  load_run 35 x ho p hx _ _ hc Tryd.underlying35 rfl (by rw [List.length_cons, nums_length, hd]; kernel_rfl)
theorem loadI_run (x : Operand) (ho : o.op = .load 3 x) (p : Addr) (hx : a.eval x = .pointer (some p)) (n : Int) (hc : w.cell? p = some (.int .i64 n)) :
    (execOp a.eval o).run Tryd.prog w = .ok (.value (.int .i64 n)) w := by
  have h1 := Tryd.isAgg3 w
  unfold execOp
  simp only [ho, hx]
  simp [Instr.loadAt, Instr.sureAddr, loadVar, h1, go_sem, hc]
theorem idx_run (t e : TypeId) (sz : Nat) (x y : Operand) (ho : o.op = .indexAddr t x y) (ht : Tryd.prog.underlying t = some (.slice e)) (hs : (Tryd.prog.info? e).map (·.size) = some sz) (ad : Addr) (n c i : Nat) (hx : a.eval x = .slice (some ad) n c) (hy : a.eval y = .int .i64 (i : Int)) (hi : i < n) :
    (execOp a.eval o).run Tryd.prog w = .ok (.value (.pointer (some (ad.add (i * sz))))) w := by
  obtain ⟨i0, hi0, hz⟩ := Option.map_eq_some_iff.1 hs
  have h2 : (0 : Int) ≤ (i : Int) ∧ (i : Int) < (n : Int) := by omega
  unfold execOp
  simp only [ho, hx, hy]
  simp [Instr.indexAt, run_underlying ht, asIntOf, sizeOf, typeInfo, hi0, hz, h2, hi, go_sem]
theorem idxP_run (x y : Operand) (ho : o.op = .indexAddr 23 x y) (ad : Addr) (n c i : Nat) (hx : a.eval x = .slice (some ad) n c) (hy : a.eval y = .int .i64 (i : Int)) (hi : i < n) :
    (execOp a.eval o).run Tryd.prog w = .ok (.value (.pointer (some (ad.add (i * 33))))) w := idx_run _ _ 33 x y ho Tryd.underlying23 (by kernel_rfl) ad n c i hx hy hi
theorem idxD_run (x y : Operand) (ho : o.op = .indexAddr 36 x y) (ad : Addr) (n c i : Nat) (hx : a.eval x = .slice (some ad) n c) (hy : a.eval y = .int .i64 (i : Int)) (hi : i < n) :
    (execOp a.eval o).run Tryd.prog w = .ok (.value (.pointer (some (ad.add (i * 32))))) w := idx_run _ _ 32 x y ho Tryd.underlying36 (by kernel_rfl) ad n c i hx hy hi
theorem fld0_run (x : Operand) (ho : o.op = .fieldAddr 35 x 0) (p : Addr) (hx : a.eval x = .pointer (some p)) : (execOp a.eval o).run Tryd.prog w = .ok (.value (.pointer (some p))) w := by
  have h1 := Tryd.underlying35
  unfold execOp
  simp only [ho, hx]
  simp [Instr.fieldAt, Instr.sureAddr, run_underlying h1, go_sem]
theorem fld1_run (x : Operand) (ho : o.op = .fieldAddr 35 x 1) (ad : Addr) (i : Nat) (hx : a.eval x = .pointer (some (ad.add (i * 33)))) : (execOp a.eval o).run Tryd.prog w = .ok (.value (.pointer (some (ad.add (i * 33 + 1))))) w := by
  have h1 := Tryd.underlying35
  rw [← Addr.add_add]
  unfold execOp
  simp only [ho, hx]
  generalize ad.add (i * 33) = p
  simp [Instr.fieldAt, Instr.sureAddr, run_underlying h1, go_sem]
theorem fldB1_run (x : Operand) (ho : o.op = .fieldAddr 35 x 1) (b : Nat) (hx : a.eval x = .pointer (some ⟨b, 0, none⟩)) : (execOp a.eval o).run Tryd.prog w = .ok (.value (.pointer (some ⟨b, 1, none⟩))) w := by
  have h1 := Tryd.underlying35
  unfold execOp
  simp only [ho, hx]
  simp [Instr.fieldAt, Instr.sureAddr, run_underlying h1, go_sem]
theorem boxP_dig {b : Nat} {q : Pr} {t : TypeId} (h : w.heap[b]? = some (.cells (.int .i64 q.1 :: nums IntKind.u8 q.2).toArray t (0, 0))) : ∀ j v, (nums IntKind.u8 q.2)[j]? = some v → w.cell? ((⟨b, 1, none⟩ : Addr).add j) = some v := by
  intro j v hj
  rw [Addr.add_mid]
  exact arr_cell h (1 + j) (by rw [Nat.add_comm]; exact hj)
theorem toList_beq (s t : ByteArray) : (s.toList == t.toList) = decide (s = t) := by
  by_cases h : s = t
  · subst h; simp
  · rw [decide_eq_false h, beq_eq_false_iff_ne]
    intro e
    apply h
    cases s with | mk x => cases t with | mk y =>
    rw [ByteArray.toList_eq, ByteArray.toList_eq] at e
    exact congrArg ByteArray.mk (Array.toList_inj.1 e)
theorem eqlS_run (ty ty' : TypeId) (x y : Operand) (ho : o.op = .binOp .eql ty x y ty') (hty : ty = 9) (s t : ByteArray) (hx : a.eval x = .string s) (hy : a.eval y = .string t) (b : Bool) (h : decide (s = t) = b) : (execOp a.eval o).run Tryd.prog w = .ok (.value (.bool b)) w := by
  have h1 := Tryd.underlying9
  have h2 : (s.toList == t.toList) = b := by rw [toList_beq, h]
  subst hty
  unfold execOp
  simp only [ho, hx, hy]
  simp [go_sem]
  exact h2
theorem eqlD_run (ty : TypeId) (x y : Operand) (ho : o.op = .binOp .eql 27 x y ty) (d e : List Int) (hx : a.eval x = .agg (nums .u8 d).toArray) (hy : a.eval y = .agg (nums .u8 e).toArray) (hd : IsD d) (he : IsD e) (b : Bool) (h : decide (d = e) = b) : (execOp a.eval o).run Tryd.prog w = .ok (.value (.bool b)) w := by
  have h3 := equal_dig hd he w
  rw [h] at h3
  have h2 : (Op.equalIn 10000 27 (.agg (nums .u8 d).toArray) (.agg (nums .u8 e).toArray)).run Tryd.prog w = .ok b w := h3
  have hg : Tryd.prog.eqGuardType Tryd.prog.depth 27 = false := by kernel_rfl
  unfold execOp
  simp only [ho, hx, hy]
  simp [h2, hg, go_sem]
end
end Go.Proofs.YtoigoiefnapokaaDoor.T
