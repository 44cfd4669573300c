/- A ring in memory; two digests compared; (*keys.Ring).Verify. -/
import Derived.Test.YtoigoiefnapokaaDoorGKMaps
import Derived.Test.YtoigoiefnapokaaDoorWLast
import Derived.Conc.MuLone
set_option linter.unusedVariables false
set_option linter.unusedSimpArgs false
namespace Go.Proofs.YtoigoiefnapokaaDoor.T
open Go.RowKit Go.Maps Go.MuLone Go.Proofs.YtoigoiefnapokaaDoorW.PrintWords Go.Proofs.YtoigoiefnapokaaDoorW.PrintLast
theorem ktD : Tryd.prog.keyTypeAt 2 27 = true := by kernel_rfl
theorem rowD : (27 : TypeId) < Tryd.prog.types.size := of_decide_eq_true (by kernel_rfl)
theorem le10D : 2 + 1 ≤ 10000 := by omega
theorem lawD : WideMaps.KeyLaw Tryd.prog 27 := by
  refine deep_law_laid (P := Tryd.prog) (k := 27) (m := 2) ?_ ?_ ?_ ?_ ?_
  · exact laidOut_
  · exact le10D
  · exact rowD
  · exact ktD
  · kernel_rfl
theorem key_isD {d : List Int} (hd : IsD d) : ∃ l, keyOf Tryd.prog 27 (digV d) = some l := by
  obtain ⟨m, hm⟩ := size_types
  obtain ⟨ls, hls⟩ := lits_dig (m + 1) d hd
  refine ⟨.string (keyBytes ls), ?_⟩
  have hkt : Tryd.prog.keyType 27 = true := by kernel_rfl
  have hf : (digV d).formed Tryd.prog 27 = true := by
    unfold digV Value.formed
    simp only [Tryd.underlying27, cells_dig, List.size_toArray, nums_length, hd.1]
    rfl
  unfold keyOf
  simp only [Tryd.underlying27]
  rw [hkt, hf, hm]
  have hc : (digV d).cells.toList = nums .u8 d := by simp [digV, Value.cells]
  rw [hc, hls]
  rfl
theorem equal_dig {a b : List Int} (ha : IsD a) (hb : IsD b) (w : World) : (Op.equal 27 (digV a) (digV b)).run Tryd.prog w = .ok (decide (a = b)) w := by
  obtain ⟨la, hla⟩ := key_isD ha
  obtain ⟨lb, hlb⟩ := key_isD hb
  obtain ⟨r, hr, hi⟩ := run_equal_deep (P := Tryd.prog) w (m := 2) (by omega) ktD (by kernel_rfl) hla hlb
  have e1 : la = lb ↔ a = b := by
    constructor
    · intro e
      subst e
      exact digV_inj (lawD.inj hla hlb)
    · intro e
      subst e
      exact Option.some.inj (hla.symm.trans hlb)
  have e2 : r = decide (a = b) := by
    rw [Bool.eq_iff_iff, hi, decide_eq_true_iff]
    exact e1
  rw [e2] at hr
  exact hr
theorem eql_dig {a b : List Int} (ha : IsD a) (hb : IsD b) (w : World) : (binOp .eql 27 (digV a) (digV b)).run Tryd.prog w = .ok (.bool (decide (a = b))) w := by
  have h := equal_dig ha hb w
  unfold digV at h ⊢
  rw [run_eql_struct]
  have h2 : (Op.equalIn 10000 27 (.agg (nums .u8 a).toArray) (.agg (nums .u8 b).toArray)).run Tryd.prog w = .ok (decide (a = b)) w := h
  rw [h2]
  rfl
/-! A ring -/
structure RV where
  b : Nat
  bk : Nat
  bs : Nat
  A : Option Addr
  ca : Nat
  sec : List Int
  nk : Nat
  ns : Nat
  Dk : DataW Value
  Ds : DataW Value
def ringCells (x : RV) (l : Int) : List Value := [.int .i32 l, .int .u32 0, .slice x.A x.sec.length x.ca, .map (some x.bk), .map (some x.bs)]
structure RV.At (x : RV) (w : World) (base : Nat) (l : Int) : Prop where
  blk : w.heap[x.b]? = some (.cells (ringCells x l).toArray 66 (0, 0))
  reads : ReadsInt w .u8 x.A x.sec.length x.sec
  far : ∀ ad, x.A = some ad → 0 < x.sec.length → ad.block ≠ x.b
  cap : x.sec.length ≤ x.ca ∧ x.sec.length ≤ 1152921504606846976
  keys : w.ownsMap Tryd.prog 9 RD x.bk x.nk x.Dk
  signed : w.ownsMap Tryd.prog 69 RD x.bs x.ns x.Ds
  base : base ≤ x.b ∧ base ≤ x.bk ∧ base ≤ x.bs
  ne : x.bk ≠ x.bs
section
variable {x : RV} {w W : World} {base : Nat} {l : Int}
theorem RV.At.ne_k (h : x.At w base l) : x.bk ≠ x.b := by
  intro e
  obtain ⟨es, c, he, _⟩ := h.keys
  rw [e, h.blk] at he
  cases he
theorem RV.At.ne_s (h : x.At w base l) : x.bs ≠ x.b := by
  intro e
  obtain ⟨es, c, he, _⟩ := h.signed
  rw [e, h.blk] at he
  cases he
theorem map_cells {P : Program} {k : TypeId} {R : Value → Option (DataW Value × List MemPlace)} {b n g : Nat} {D : DataW Value} {cs : Array Value} {t : TypeId} (h : w.ownsMap P k R b n D) (hg : w.heap[g]? = some (.cells cs t (0, 0))) : b ≠ g := by
  intro e
  obtain ⟨es, c, he, _⟩ := h
  rw [e, hg] at he
  cases he
theorem map_below {P : Program} {k : TypeId} {R : Value → Option (DataW Value × List MemPlace)} {b n : Nat} {D : DataW Value} (h : w.ownsMap P k R b n D) (hb : W.heap[b]? = w.heap[b]?) : W.ownsMap P k R b n D := by
  obtain ⟨es, c, he, r⟩ := h
  exact ⟨es, c, hb.trans he, r⟩
/-- What leaves the ring's blocks and its secret. -/
theorem RV.At.below (h : x.At w base l) (hb : Below w.heap.size w W) : x.At W base l :=
  ⟨blk_below h.blk hb, h.reads.below hb, h.far, h.cap, map_below h.keys (hb.block _ h.keys.lt), map_below h.signed (hb.block _ h.signed.lt), h.base, h.ne⟩
theorem RV.At.keep (h : x.At w base l) {g : Nat} (hk : KeepBut w W g none) (h1 : x.b ≠ g) (h2 : x.bk ≠ g) (h3 : x.bs ≠ g) (h4 : ∀ ad, x.A = some ad → 0 < x.sec.length → ad.block ≠ g) : x.At W base l :=
  ⟨(hk.2 _ (blk_lt h.blk) h1 (by simp)).trans h.blk, h.reads.keep hk h4, h.far, h.cap, map_below h.keys (hk.2 _ h.keys.lt h2 (by simp)), map_below h.signed (hk.2 _ h.signed.lt h3 (by simp)), h.base, h.ne⟩
/-- The lock's word is set. -/
theorem RV.At.lock (h : x.At w base l) (l' : Int) : x.At (w.setCell ⟨x.b, 0, none⟩ (.int .i32 l')) base l' :=
  ⟨arr_put h.blk 0 _, h.reads.keep (KeepBut.set_ (KeepBut.refl _ _ _) 0 _) h.far, h.far, h.cap, map_below h.keys (Below.heap_setCell _ ⟨x.b, 0, none⟩ _ x.bk h.ne_k), map_below h.signed (Below.heap_setCell _ ⟨x.b, 0, none⟩ _ x.bs h.ne_s), h.base, h.ne⟩
theorem RV.At.drew (h : x.At w base l) : x.At w.drew base l := ⟨blk_drew h.blk, h.reads, h.far, h.cap, h.keys, h.signed, h.base, h.ne⟩
theorem RV.At.c0 (h : x.At w base l) : w.cell? ⟨x.b, 0, none⟩ = some (.int .i32 l) := arr_cell h.blk 0 rfl
theorem RV.At.c2 (h : x.At w base l) : w.cell? ⟨x.b, 2, none⟩ = some (.slice x.A x.sec.length x.ca) := arr_cell h.blk 2 rfl
theorem RV.At.c3 (h : x.At w base l) : w.cell? ⟨x.b, 3, none⟩ = some (.map (some x.bk)) := arr_cell h.blk 3 rfl
theorem RV.At.c4 (h : x.At w base l) : w.cell? ⟨x.b, 4, none⟩ = some (.map (some x.bs)) := arr_cell h.blk 4 rfl
end
end Go.Proofs.YtoigoiefnapokaaDoor.T
