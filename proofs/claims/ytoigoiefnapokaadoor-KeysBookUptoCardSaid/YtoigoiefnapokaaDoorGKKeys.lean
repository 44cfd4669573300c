/- A ring with the eight names, of which pairs were signed: what its calls do. -/
import Derived.Test.YtoigoiefnapokaaDoorGKPlain
set_option linter.unusedVariables false
set_option linter.unusedSimpArgs false
namespace Go.Proofs.YtoigoiefnapokaaDoor.T
open Go.RowKit Go.Maps Go.MuLone Go.Proofs.YtoigoiefnapokaaDoorW.PrintWords Go.Proofs.YtoigoiefnapokaaDoorW.PrintLast
structure Keys (x : RV) (w W : World) (sec : List Int) (ps : List Pr) : Prop where
  at_ : x.At W w.heap.size 0
  keys : Says x.Dk klS okS (gf sec 8)
  signed : Says x.Ds klP okP (sf sec ps)
  ns : x.ns = ps.length
  sec : x.sec = sec
  below : Below w.heap.size w W
section
variable {x : RV} {w W W' : World} {sec : List Int} {ps : List Pr}
theorem Keys.low (h : Keys x w W sec ps) (hb : Below W.heap.size W W') : Keys x w W' sec ps := ⟨h.at_.below hb, h.keys, h.signed, h.ns, h.sec, below_step h.below hb⟩
theorem Keys.drew (h : Keys x w W sec ps) : Keys x w W.drew sec ps := ⟨h.at_.drew, h.keys, h.signed, h.ns, h.sec, below_drew h.below⟩
theorem Keys.row (h : Keys x w W sec ps) {n b : Nat} (hu : x.under n) (hn : n ≤ b) (hw : w.heap.size ≤ b) (cs : Array Value) : Keys x w (W.setRow b cs) sec ps := ⟨h.at_.setRow hu hn cs, h.keys, h.signed, h.ns, h.sec, below_row h.below hw cs⟩
theorem Keys.grown (h : Keys x w W sec ps) {n : Nat} (hu : x.under n) {row : Option Nat} (hg : W.grownBy W' row) (hr : ∀ k, row = some k → n ≤ k ∧ w.heap.size ≤ k) : Keys x w W' sec ps := ⟨h.at_.grown hu hg (fun k hk => (hr k hk).1), h.keys, h.signed, h.ns, h.sec, pw_below_grown h.below _ h.below.size hg (fun k hk => (hr k hk).2)⟩
theorem Keys.verify (h : Keys x w W sec ps) (n : Int) (d sl : List Int) (hd : IsD d) (hs : IsD sl) :
    Calls Tryd.prog 10 #[.pointer (some ⟨x.b, 0, none⟩), .string (nm n), .agg (nums .u8 d).toArray, .agg (nums .u8 sl).toArray] W fun e w' => e = .returned (.bool (decide (sf sec ps (nm n, d) = some sl))) ∧ Below W.heap.size W w' :=
  verify_calls W x _ h.at_ _ h.signed (sf_is sec ps) (nm n) (nm_okS n) d sl hd hs
theorem Keys.sign (h : Keys x w W sec ps) (hF : LaidF w) (hL : LaidR w) (n : Int) (d : List Int) (hd : IsD d) (hl : ps.length < 100000) :
    Calls Tryd.prog 11 #[.pointer (some ⟨x.b, 0, none⟩), .string (nm n), .agg (nums .u8 d).toArray] W fun e w' => e = .returned (.tuple #[.agg (nums .u8 (sealf sec (n, d))).toArray, .int .i64 0]) ∧ KeepBut W w' x.bs none ∧ Keys (x.signedWith (nm n) d (sealf sec (n, d))) w w' sec (ps ++ [(n, d)]) := by
  refine (sign_calls w W x h.at_ h.below (gf sec 8) h.keys (gf_is sec 8) (nm n) (nm_okS n) _ (gf_all sec n) d hd hF hL (by rw [h.ns]; simp only [maxLen]; omega)).mono ?_
  rintro e w' ⟨rfl, hk, ha, hb⟩
  exact ⟨rfl, hk, ha, h.keys, says_sf h.signed h.at_.signed.isMap (n, d) hd, by show x.ns + 1 = _; rw [h.ns, List.length_append]; rfl, h.sec, hb⟩
theorem Keys.signV (h : Keys x w W sec ps) (hF : LaidF w) (hL : LaidR w) (n : Int) (d v : List Int) (hv : sealf sec (n, d) = v) (hd : IsD d) (hl : ps.length < 100000) :
    Calls Tryd.prog 11 #[.pointer (some ⟨x.b, 0, none⟩), .string (nm n), .agg (nums .u8 d).toArray] W fun e w' => e = .returned (.tuple #[.agg (nums .u8 v).toArray, .int .i64 0]) ∧ KeepBut W w' x.bs none ∧ Keys (x.signedWith (nm n) d v) w w' sec (ps ++ [(n, d)]) := by
  subst hv
  exact h.sign hF hL n d hd hl
theorem Keys.signB (h : Keys x w W sec ps) {b : Nat} (hb : x.b = b) (hF : LaidF w) (hL : LaidR w) (n : Int) (d v : List Int) (hv : sealf sec (n, d) = v) (hd : IsD d) (hl : ps.length < 100000) :
    Calls Tryd.prog 11 #[.pointer (some ⟨b, 0, none⟩), .string (nm n), .agg (nums .u8 d).toArray] W fun e w' => e = .returned (.tuple #[.agg (nums .u8 v).toArray, .int .i64 0]) ∧ KeepBut W w' x.bs none ∧ Keys (x.signedWith (nm n) d v) w w' sec (ps ++ [(n, d)]) := by
  subst hb
  exact h.signV hF hL n d v hv hd hl
theorem Keys.verifyB (h : Keys x w W sec ps) {b : Nat} (hb : x.b = b) (n : Int) (d sl : List Int) (hd : IsD d) (hs : IsD sl) :
    Calls Tryd.prog 10 #[.pointer (some ⟨b, 0, none⟩), .string (nm n), .agg (nums .u8 d).toArray, .agg (nums .u8 sl).toArray] W fun e w' => e = .returned (.bool (decide (sf sec ps (nm n, d) = some sl))) ∧ Below W.heap.size W w' := by
  subst hb
  exact h.verify n d sl hd hs
theorem under_signed {n : Nat} {s : ByteArray} {d v : List Int} (h : x.under n) : (x.signedWith s d v).under n := h
theorem keep_blk {b g : Nat} {cs : Array Value} {t : TypeId} {P : Program} {k : TypeId} {R : Value → Option (DataW Value × List MemPlace)} {m : Nat} {D : DataW Value} (hk : KeepBut W W' g none) (hm : W.ownsMap P k R g m D) (hb : W.heap[b]? = some (.cells cs t (0, 0))) : W'.heap[b]? = some (.cells cs t (0, 0)) :=
  (hk.2 b (blk_lt hb) (map_cells hm hb).symm (by simp)).trans hb
end
section
variable {o : Oper} {a : Act} {w : World}
theorem nine_run {d : List Int} (hd : nineD = d) (ho : o.op = .build 27 #[(0, .const (.int .u8 9)), (1, .const (.int .u8 9))]) : (execOp a.eval o).run Tryd.prog w = .ok (.value (.agg (nums .u8 d).toArray)) w := by
  subst hd
  unfold execOp
  simp only [ho, Sem.run_bind, List.map_toArray, List.map_cons, List.map_nil, Act.eval, build_nine w, Result.andThen_ok]
  rfl
theorem buildP_run (x y : Operand) (n : Int) (d : List Int) (hd : d.length = 32) (ho : o.op = .build 35 #[(0, x), (1, y)]) (hx : a.eval x = .int .i64 n) (hy : a.eval y = .agg (nums .u8 d).toArray) : (execOp a.eval o).run Tryd.prog w = .ok (.value (pairP (n, d))) w := by
  unfold execOp
  simp only [ho, Sem.run_bind, List.map_toArray, List.map_cons, List.map_nil, hx, hy, build_pr n d hd w, Result.andThen_ok]
  rfl
theorem bslP_run (x : Operand) (p : Pr) (hd : p.2.length = 32) (ho : o.op = .buildSlice 23 1 #[(0, x)]) (hx : a.eval x = pairP p) : (execOp a.eval o).run Tryd.prog w = .ok (.value (.slice (some ⟨w.heap.size, 0, none⟩) 1 1)) (w.alloc (.cells (.int .i64 p.1 :: nums .u8 p.2).toArray 35)) := by
  unfold execOp
  simp only [ho, Sem.run_bind, List.map_toArray, List.map_cons, List.map_nil, hx, bsl_pair p hd w, Result.andThen_ok]
  rfl
theorem bslD_run (x : Operand) (d : List Int) (hd : d.length = 32) (ho : o.op = .buildSlice 36 1 #[(0, x)]) (hx : a.eval x = .agg (nums .u8 d).toArray) : (execOp a.eval o).run Tryd.prog w = .ok (.value (.slice (some ⟨w.heap.size, 0, none⟩) 1 1)) (w.alloc (.cells (nums .u8 d).toArray 27)) := by
  unfold execOp
  simp only [ho, Sem.run_bind, List.map_toArray, List.map_cons, List.map_nil, hx, bsl_dig d hd w, Result.andThen_ok]
  rfl
theorem neqD_run (ty : TypeId) (x y : Operand) (ho : o.op = .binOp .neq 27 x y ty) (d e : List Int) (hx : a.eval x = .agg (nums .u8 d).toArray) (hy : a.eval y = .agg (nums .u8 e).toArray) (hd : IsD d) (he : IsD e) (b : Bool) (h : decide (d = e) = b) : (execOp a.eval o).run Tryd.prog w = .ok (.value (.bool (!b))) w := by
  have h3 := equal_dig hd he w
  rw [h] at h3
  have h2 : (Op.equalIn 10000 27 (.agg (nums .u8 d).toArray) (.agg (nums .u8 e).toArray)).run Tryd.prog w = .ok b w := h3
  have hg : Tryd.prog.eqGuardType Tryd.prog.depth 27 = false := by kernel_rfl
  unfold execOp
  simp only [ho, hx, hy]
  simp [h2, hg, go_sem]
end
end Go.Proofs.YtoigoiefnapokaaDoor.T
