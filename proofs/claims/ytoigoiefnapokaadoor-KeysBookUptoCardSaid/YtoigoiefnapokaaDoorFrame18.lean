/- The frames of layer 18: arguments opened (bytes, pairs, numbers), what the row lists read off, the bound. -/
import Derived.Test.YtoigoiefnapokaaDoorRows
import Derived.Test.YtoigoiefnapokaaDoorCards
import Derived.Test.YtoigoiefnapokaaDoorTie
import Derived.Test.YtoigoiefnapokaaDoorGKJoin
import Derived.Deep.Slices
import Derived.WalkKit
import Derived.ProofKit
import Derived.OpenShut
import Derived.Carry
import Derived.Deep.Strs
import Derived.Deep.DeepHandedRow
import Derived.Lib.LaidTab
set_option linter.unusedVariables false
set_option linter.unusedSimpArgs false
namespace Go.Proofs.YtoigoiefnapokaaDoor.T
open Go.ChangeShapes Go.WideShapes Go.ChangeAt Go.RowKit Go.Deep Go.Proofs.YtoigoiefnapokaaDoorW.PrintWords
theorem cI : Tryd.prog.cellsOf 3 = 1 := by kernel_rfl
theorem cU : Tryd.prog.cellsOf 5 = 1 := by kernel_rfl
theorem cPr : Tryd.prog.cellsOf 35 = 33 := by kernel_rfl
section
variable {H : Type} {enc : TypeId × Value → H}
theorem trodAll_below {P : Program} (hl : laidOutB P = true) {W W' : World} (hb : Below W.heap.size W W') : ∀ {ts : List TypeId} {vs : List Value} {ds : List (DataW H)} {ps : List MemPlace},
    (∀ t ∈ ts, P.readableRec t = true ∧ t < P.types.size) → DataW.TrodAll enc P W 0 (fun _ => true) true ts vs ds ps → (∀ x ∈ ps, x.block < W.heap.size) → DataW.TrodAll enc P W' 0 (fun b => decide (b < W.heap.size)) true ts vs ds ps
  | [], [], [], ps, _, h, _ => h
  | t :: ts, v :: vs, d :: ds, ps, hr, h, hlt => by
    obtain ⟨p, q, h1, h2, rfl⟩ := h
    exact ⟨p, q, h1.elim fun n hn => Below.trod hl (hr t (.head _)).1 (hr t (.head _)).2 ⟨n, hn⟩ hb (fun x hx => hlt x (List.mem_append_left _ hx)), trodAll_below hl hb (fun t ht => hr t (.tail _ ht)) h2 (fun x hx => hlt x (List.mem_append_right _ hx)), rfl⟩
  | [], _ :: _, _, _, _, h, _ => h.elim
  | [], [], _ :: _, _, _, h, _ => h.elim
  | _ :: _, [], _, _, _, h, _ => h.elim
  | _ :: _, _ :: _, [], _, _, h, _ => h.elim
/-- The post of a law that answers true and leaves what was there. -/
theorem post_true {P : Program} {f : Func} {s : ChangeSpec} {tb : TypeId} (hl : laidOutB P = true) (hr : ∀ t ∈ f.params.toList, P.readableRec t = true ∧ t < P.types.size) (hv : s.vars = []) (hrt : f.resultTypes = #[tb]) (hu : P.underlying tb = some .bool)
    {W W' : World} {args : Array Value} {ds gs : List (DataW H)} {before : List MemPlace} (hW : DataW.Whole enc P f.params.toList s.vars false W args.toList ds gs before)
    (hfn : s.fn H (ds ++ gs) = { results := [.lit (.bool true)], args := ds }) (hb : Below W.heap.size W W') : s.post enc P f false true false false W args (.bool true) W' := by
  have hW0 := hW
  have hlt := hW.lt
  obtain ⟨p, q, hA, hV, rfl, hfz, hnd⟩ := hW
  rw [hv] at hV
  obtain ⟨rfl, rfl⟩ := trodVars_none hV
  refine ⟨ds, [], p ++ [], [], p, [], hW0, ?_, ?_, ?_, hb.frame _, fun h => by cases h⟩
  · rw [hfn, hrt]
    exact trodAll_mk1 (shut_bool hu _)
  · rw [hfn]
    exact trodAll_below hl hb hr hA (fun x hx => hlt x (List.mem_append_left _ hx))
  · rw [hfn, hv]
    exact rfl
theorem add_add' (a : Addr) (m n : Nat) : (a.add m).add n = a.add (m + n) := by
  unfold Addr.add
  by_cases hm : m = 0
  · subst hm; simp
  · by_cases hn : n = 0
    · subst hn; simp [hm]
    · simp [hm, hn, Nat.add_assoc]
set_option maxRecDepth 100000 in
/-- A slice of such elements, as the walks read it. -/
theorem open_list {α : Type} {W : World} {base : Nat} {sp : Nat → Bool} {held : Bool} {fuel : Nat} {t e : TypeId} {sz : Nat} {cs : List Value} {x : DataW H × List MemPlace} (d : Kd α) (encL : α → List Value) (dat : α → DataW H) (ok : α → Bool)
    (hopen : ∀ (fuel : Nat) (cs : List Value) (y : DataW H × List MemPlace), DataW.trod enc Tryd.prog W base sp held fuel e cs = some y → ∃ b : α, cs = encL b ∧ y.1 = dat b ∧ ok b = true)
    (hsz : Tryd.prog.cellsOf e = sz) (hd : d.sz = sz) (hK : ∀ b, ok b = true → d.K W b (encL b)) (ht : Tryd.prog.underlying t = some (.slice e)) (h : DataW.trod enc Tryd.prog W base sp held fuel t cs = some x) :
    ∃ (A : Option Addr) (c : Nat) (l : List α), cs = [.slice A l.length c] ∧ l.length ≤ c ∧ d.C W A l.length l ∧ l.all ok = true ∧ ((x.1 = .nil ∧ l = []) ∨ ∃ r, x.1 = .slice (l.map dat) r) := by
  rcases open_slice ht h with ⟨rfl, rfl⟩ | ⟨a, len, cap, m, n, D, Pl, rfl, hb, hl, hm, hmm, rfl, hx⟩
  · exact ⟨none, 0, [], rfl, Nat.le_refl _, ⟨rfl, by simp, fun h => by simp at h⟩, rfl, .inl ⟨rfl, rfl⟩⟩
  · have hlm : len ≤ m := by rw [hmm]; split <;> omega
    have each : ∀ i, i < len → ∃ b : α, (∀ (j : Nat) (u : Value), (encL b)[j]? = some u → W.cell? (a.add (i * sz + j)) = some u) ∧ D i = dat b ∧ ok b = true := by
      intro i hi
      obtain ⟨cs', h1, h2⟩ := hx i (by omega)
      obtain ⟨b, rfl, hdb, hob⟩ := hopen _ _ _ h2
      rw [hsz] at h1
      obtain ⟨_, hlen, hcell⟩ := World.cells?_some h1
      refine ⟨b, fun j u hu => ?_, hdb, hob⟩
      have hj : j < sz := by rw [← hlen]; exact (List.getElem?_eq_some_iff.1 hu).1
      have := hcell j hj
      rw [add_add'] at this
      rw [this, hu]
    rcases Nat.eq_zero_or_pos len with h0 | h0
    · subst h0
      exact ⟨some a, cap, [], rfl, Nat.zero_le _, ⟨rfl, by simp, fun h => by simp at h⟩, rfl, .inr ⟨_, rfl⟩⟩
    · obtain ⟨b0, _⟩ := each 0 h0
      letI : Inhabited α := ⟨b0⟩
      obtain ⟨B, hB⟩ := choose_lt each
      have hlen : ((List.range len).map B).length = len := by simp
      refine ⟨some a, cap, (List.range len).map B, by rw [hlen], by rw [hlen]; exact hl, ⟨rfl, by rw [hlen]; simp [maxLen] at hm; omega, fun _ => ⟨a, rfl, fun j p hj => ?_⟩⟩, ?_, .inr ⟨(List.range (m - len)).map fun j => D (len + j), ?_⟩⟩
      · obtain ⟨hj1, hj2⟩ := List.getElem?_eq_some_iff.1 hj
        simp only [List.getElem_map, List.getElem_range] at hj2
        rw [hlen] at hj1
        subst hj2
        exact ⟨encL (B j), d.K_len (hK _ (hB j hj1).2.2), hK _ (hB j hj1).2.2, by rw [hd]; exact (hB j hj1).1⟩
      · rw [List.all_eq_true]
        intro b hb
        obtain ⟨i, hi, rfl⟩ := List.mem_map.1 hb
        exact (hB i (List.mem_range.1 hi)).2.2
      · rw [List.map_map, List.map_congr_left (fun i hi => (hB i (List.mem_range.1 hi)).2.1)]
        rfl
def isBy (d : DataW H) (l : List Int) : Prop := (d = .nil ∧ l = []) ∨ ∃ r, d = .slice (l.map fun b => .lit (.int .u8 b)) r
theorem wf_byte {x : Int} (h : (Lit.int .u8 x).wf = true) : (decide (0 ≤ x) && decide (x ≤ 255)) = true := by
  simp [Lit.wf, IntKind.min, IntKind.max, IntKind.bits, IntKind.signed] at h
  simp
  omega
set_option maxRecDepth 100000 in
theorem arg_By {W : World} {base b0 : Nat} {sp : Nat → Bool} {held : Bool} {r : Reach} {v : Value} {d : DataW H} {ps : List MemPlace} (hval : Value.okWide Tryd.prog W r b0 22 v) (h : DataW.Trod enc Tryd.prog W base sp held 22 v d ps) :
    ∃ (A : Option Addr) (c : Nat) (l : List Int), v = .slice A l.length c ∧ l.length ≤ c ∧ ReadsInt W .u8 A l.length l ∧ (∀ x ∈ l, 0 ≤ x ∧ x ≤ 255) ∧ isBy d l := by
  obtain ⟨A0, n0, c0, rfl⟩ := okWide_slice Tryd.underlying22 hval
  obtain ⟨fuel, h⟩ := h
  obtain ⟨A, c, l, e, hlc, hC, hok, hd⟩ := open_list (Kd.int .u8) (fun b => [.int .u8 b]) (fun b => .lit (.int .u8 b)) (fun b => decide (0 ≤ b) && decide (b ≤ 255))
    (fun _ _ _ h => by obtain ⟨a, e0, rfl, w0⟩ := DataW.trod_int Tryd.underlying5 h; exact ⟨a, e0, rfl, wf_byte w0⟩) cU rfl (fun b _ => by first | rfl | simp [Kd.int, Kd.scalar]) Tryd.underlying22 (show DataW.trod enc Tryd.prog W base sp held fuel 22 [.slice A0 n0 c0] = some (d, ps) by simpa [Value.cells] using h)
  simp only [List.cons.injEq, and_true] at e
  rw [e]
  refine ⟨A, c, l, rfl, hlc, readsInt_of.2 (Kd.reads_of_C (enc := Value.int .u8) (d := (0 : Int)) (h1 := fun _ => rfl) hC), ?_, hd⟩
  intro x hx
  have := List.all_eq_true.1 hok x hx
  simpa using this
theorem bulk_list {α : Type} (dat : α → DataW H) (hd : ∀ x, 1 ≤ Rows.uptoBulk (dat x)) : ∀ l : List α, l.length ≤ Rows.uptoBulkAll (l.map dat)
  | [] => by simp
  | a :: r => by
    have := bulk_list dat hd r
    have := hd a
    simp only [List.map_cons, Rows.uptoBulkAll, List.length_cons]
    omega
theorem bulk_By {d : DataW H} {l : List Int} (h : isBy d l) : l.length ≤ Rows.uptoBulk d := by
  rcases h with ⟨_, rfl⟩ | ⟨r, rfl⟩
  · simp
  · have := bulk_list (H := H) (fun b : Int => .lit (.int .u8 b)) (fun x => by simp [Rows.uptoBulk]) l
    simp only [Rows.uptoBulk]
    omega
/-! arrays of whole numbers; pairs -/
def toI : Value → Int
  | .int _ a => a
  | _ => 0
set_option maxRecDepth 100000 in
theorem open_ints {k : IntKind} {n : Nat} {t e : TypeId} {W : World} {base : Nat} {sp : Nat → Bool} {held : Bool} {fuel : Nat} {cs : List Value} {x : DataW H × List MemPlace} (ht : Tryd.prog.underlying t = some (.array n e)) (he : Tryd.prog.underlying e = some (.int k)) (hce : Tryd.prog.cellsOf e = 1) (hct : Tryd.prog.cellsOf t = n)
    (h : DataW.trod enc Tryd.prog W base sp held fuel t cs = some x) : ∃ l : List Int, cs = nums k l ∧ l.length = n ∧ x.1 = .agg (l.map fun b => .lit (.int k b)) ∧ ∀ b ∈ l, (Lit.int k b).wf = true := by
  obtain ⟨xs, m, _, rfl, hl, hlen, hx⟩ := DataW.trod_array ht h
  rw [hct] at hl
  have each : ∀ i, i < n → ∃ a, cs[i]? = some (.int k a) ∧ xs[i]? = some (.lit (.int k a), []) ∧ (Lit.int k a).wf = true := by
    intro i hi
    have h1 := hx i hi
    rw [hce, Nat.mul_one, List.getElem?_eq_getElem (by omega : i < xs.length)] at h1
    obtain ⟨a, e0, e1, w0⟩ := DataW.trod_int he h1
    have hi' : i < cs.length := by omega
    rw [List.drop_eq_getElem_cons hi', List.take_succ_cons, List.take_zero] at e0
    injection e0 with e0 _
    exact ⟨a, by rw [List.getElem?_eq_getElem hi', e0], by rw [List.getElem?_eq_getElem (by omega : i < xs.length), e1], w0⟩
  refine ⟨cs.map toI, ?_, by rw [List.length_map, hl], ?_, ?_⟩
  · unfold nums
    rw [List.map_map]
    apply List.ext_getElem?
    intro i
    rw [List.getElem?_map]
    by_cases hi : i < n
    · obtain ⟨a, h1, _, _⟩ := each i hi
      simp [h1, toI]
    · have hn : cs[i]? = none := List.getElem?_eq_none (by omega)
      simp [hn]
  · show DataW.agg _ = DataW.agg _
    congr 1
    rw [List.map_map]
    apply List.ext_getElem?
    intro i
    rw [List.getElem?_map, List.getElem?_map]
    by_cases hi : i < n
    · obtain ⟨a, h1, h2, _⟩ := each i hi
      simp [h1, h2, toI]
    · have hn : cs[i]? = none := List.getElem?_eq_none (by omega)
      have hm : xs[i]? = none := List.getElem?_eq_none (by omega)
      simp [hn, hm]
  · intro b hb
    obtain ⟨v, hv, rfl⟩ := List.mem_map.1 hb
    obtain ⟨i, hi⟩ := List.getElem?_of_mem hv
    have hin : i < n := by have := (List.getElem?_eq_some_iff.1 hi).1; omega
    obtain ⟨a, h1, _, hw⟩ := each i hin
    rw [h1] at hi
    injection hi with hi
    subst hi
    exact hw
def dPr (p : Pr) : DataW H := .agg [.lit (.int .i64 p.1), .agg (p.2.map fun b => .lit (.int .u8 b))]
def okPr (p : Pr) : Bool := decide (p.2.length = 32) && p.2.all fun b => decide (0 ≤ b) && decide (b ≤ 255)
set_option maxRecDepth 100000 in
theorem open_P {W : World} {base : Nat} {sp : Nat → Bool} {held : Bool} {fuel : Nat} {cs : List Value} {x : DataW H × List MemPlace} (h : DataW.trod enc Tryd.prog W base sp held fuel 35 cs = some x) :
    ∃ p : Pr, cs = .int .i64 p.1 :: nums .u8 p.2 ∧ x.1 = dPr p ∧ okPr p = true := by
  obtain ⟨y0, y1, k, rfl, hl, u0, u1⟩ := trod_struct2 Tryd.underlying35 h
  rw [cPr] at hl
  match cs, hl with
  | v0 :: r, hl =>
    simp only [cI, cells_dig, List.drop_zero, List.take_succ_cons, List.take_zero, List.drop_succ_cons] at u0 u1
    obtain ⟨a, e0, e1, w0⟩ := DataW.trod_int Tryd.underlying3 u0
    injection e0 with e0 _
    have hr : r.take 32 = r := List.take_of_length_le (by simp only [List.length_cons] at hl; omega)
    rw [hr] at u1
    obtain ⟨l, e2, hl2, hd, hw⟩ := open_ints Tryd.underlying27 Tryd.underlying5 cU cells_dig u1
    refine ⟨(a, l), by rw [e0, e2], ?_, ?_⟩
    · show DataW.agg [y0.1, y1.1] = _
      rw [e1, hd]
      rfl
    · simp only [okPr, Bool.and_eq_true, decide_eq_true_eq, List.all_eq_true]
      exact ⟨hl2, fun b hb => by have := wf_byte (hw b hb); simpa using this⟩
theorem okPr_is {p : Pr} (h : okPr p = true) : IsD p.2 := by
  simp only [okPr, Bool.and_eq_true, decide_eq_true_eq, List.all_eq_true] at h
  exact ⟨h.1, fun b hb => by have := h.2 b hb; omega⟩
def isPr (d : DataW H) (l : List Pr) : Prop := (d = .nil ∧ l = []) ∨ ∃ r, d = .slice (l.map dPr) r
theorem okPr_K {W : World} {p : Pr} (h : okPr p = true) : kP.K W p (.int .i64 p.1 :: nums .u8 p.2) :=
  kP.K_of_M (base := 0) (ok := fun _ => True) (kP_M (okPr_is h).1)
set_option maxRecDepth 100000 in
theorem arg_Pr {W : World} {base b0 : Nat} {sp : Nat → Bool} {held : Bool} {r : Reach} {v : Value} {d : DataW H} {ps : List MemPlace} (hval : Value.okWide Tryd.prog W r b0 23 v) (h : DataW.Trod enc Tryd.prog W base sp held 23 v d ps) :
    ∃ (A : Option Addr) (c : Nat) (l : List Pr), v = .slice A l.length c ∧ kP.C W A l.length l ∧ (∀ p ∈ l, IsD p.2) ∧ isPr d l := by
  obtain ⟨A0, n0, c0, rfl⟩ := okWide_slice Tryd.underlying23 hval
  obtain ⟨fuel, h⟩ := h
  obtain ⟨A, c, l, e, hlc, hC, hok, hd⟩ := open_list kP (fun p => .int .i64 p.1 :: nums .u8 p.2) dPr okPr (fun _ _ _ h => open_P h) cPr kP_sz (fun b hb => okPr_K hb) Tryd.underlying23 (show DataW.trod enc Tryd.prog W base sp held fuel 23 [.slice A0 n0 c0] = some (d, ps) by simpa [Value.cells] using h)
  simp only [List.cons.injEq, and_true] at e
  rw [e]
  exact ⟨A, c, l, rfl, hC, fun p hp => okPr_is (List.all_eq_true.1 hok p hp), hd⟩
theorem bulk_Pr {d : DataW H} {l : List Pr} (h : isPr d l) : l.length ≤ Rows.uptoBulk d := by
  rcases h with ⟨_, rfl⟩ | ⟨r, rfl⟩
  · simp
  · have := bulk_list (H := H) dPr (fun x => by simp [dPr, Rows.uptoBulk]) l
    simp only [Rows.uptoBulk]
    omega
set_option maxRecDepth 100000 in
theorem arg_I {W : World} {base b0 : Nat} {sp : Nat → Bool} {held : Bool} {r : Reach} {v : Value} {d : DataW H} {ps : List MemPlace} (hval : Value.okWide Tryd.prog W r b0 3 v) (h : DataW.Trod enc Tryd.prog W base sp held 3 v d ps) :
    ∃ n : Int, v = .int .i64 n ∧ -9223372036854775808 ≤ n ∧ n ≤ 9223372036854775807 := by
  obtain ⟨n, rfl⟩ := okWide_int Tryd.underlying3 hval
  obtain ⟨fuel, h⟩ := h
  obtain ⟨a, e0, _, w0⟩ := DataW.trod_int Tryd.underlying3 (show DataW.trod enc Tryd.prog W base sp held fuel 3 [.int .i64 n] = some (d, ps) by simpa [Value.cells] using h)
  injection e0 with e0 _
  injection e0 with _ e0
  subst e0
  refine ⟨n, rfl, ?_⟩
  simp [Lit.wf, IntKind.min, IntKind.max, IntKind.bits, IntKind.signed] at w0
  omega
set_option maxRecDepth 100000 in
theorem arg_U {W : World} {base b0 : Nat} {sp : Nat → Bool} {held : Bool} {r : Reach} {v : Value} {d : DataW H} {ps : List MemPlace} (hval : Value.okWide Tryd.prog W r b0 5 v) (h : DataW.Trod enc Tryd.prog W base sp held 5 v d ps) :
    ∃ n : Int, v = .int .u8 n ∧ 0 ≤ n ∧ n < 256 := by
  obtain ⟨n, rfl⟩ := okWide_int Tryd.underlying5 hval
  obtain ⟨fuel, h⟩ := h
  obtain ⟨a, e0, _, w0⟩ := DataW.trod_int Tryd.underlying5 (show DataW.trod enc Tryd.prog W base sp held fuel 5 [.int .u8 n] = some (d, ps) by simpa [Value.cells] using h)
  injection e0 with e0 _
  injection e0 with _ e0
  subst e0
  refine ⟨n, rfl, ?_⟩
  have h := wf_byte w0
  simp at h
  omega
end
theorem laid_at {W : World} : ∀ {l : List (String × DataW Unit)} {ps : List MemPlace}, DataW.LaidVars Tryd.prog W l ps → ∀ {n : String} {d : DataW Unit}, (n, d) ∈ l →
    ∃ g t cs fuel p, Tryd.prog.globalNamed n = some g ∧ (Tryd.prog.globals[g]?).map (·.type) = some t ∧ W.var? Tryd.prog n = some cs ∧ DataW.trod (fun _ => ()) Tryd.prog W 0 (fun _ => true) false fuel t cs.toList = some (d, p)
  | [], _, _, _, _, h => by simp at h
  | (n0, d0) :: r, ps, hl, n, d, h => by
    obtain ⟨g, t, cs, fuel, p, q, hg, ht, hv, hd, hr, _⟩ := hl
    rcases List.mem_cons.1 h with h | h
    · injection h with h1 h2
      subst h1 h2
      exact ⟨g, t, cs, fuel, p, hg, ht, hv, hd⟩
    · exact laid_at hr h
def litU (l : List Int) : DataW Unit := .agg (l.map fun b => .lit (.int .u32 b))
theorem litU_inj : ∀ {a b : List Int}, (a.map fun x => (DataW.lit (.int .u32 x) : DataW Unit)) = b.map (fun x => .lit (.int .u32 x)) → a = b
  | [], [], _ => rfl
  | [], _ :: _, h => by simp at h
  | _ :: _, [], h => by simp at h
  | x :: a, y :: b, h => by
    simp only [List.map_cons, List.cons.injEq, DataW.lit.injEq, Lit.int.injEq, true_and] at h
    rw [h.1, litU_inj h.2]
theorem gF : Tryd.prog.globalNamed "hearsay/digest.first" = some 0 := by kernel_rfl
theorem gFT : (Tryd.prog.globals[0]?).map (·.type) = some 76 := by kernel_rfl
theorem gR : Tryd.prog.globalNamed "hearsay/digest.rounds" = some 1 := by kernel_rfl
theorem gRT : (Tryd.prog.globals[1]?).map (·.type) = some 87 := by kernel_rfl
theorem cU32 : Tryd.prog.cellsOf 58 = 1 := by kernel_rfl
theorem cSt : Tryd.prog.cellsOf 76 = 8 := by kernel_rfl
theorem cRd : Tryd.prog.cellsOf 87 = 64 := by kernel_rfl
theorem nums_at (k : IntKind) (l : List Int) {j : Nat} (hj : j < l.length) : (nums k l)[j]? = some (.int k (l.getD j 0)) := by
  simp [nums, List.getD_eq_getElem?_getD, List.getElem?_eq_getElem hj]
set_option maxRecDepth 100000 in
theorem first_at {W : World} {l : List (String × DataW Unit)} {ps : List MemPlace} (hl : DataW.LaidVars Tryd.prog W l ps) (hm : ("hearsay/digest.first", Rows.laid_hearsay_digest_first) ∈ l) : LaidF W := by
  obtain ⟨g, t, cs, fuel, p, hg, ht, hvar, hd⟩ := laid_at hl hm
  obtain rfl := Option.some.inj (gF.symm.trans hg)
  obtain rfl := Option.some.inj (gFT.symm.trans ht)
  obtain ⟨l, e, hn, hx, _⟩ := open_ints Tryd.underlying76 Tryd.underlying58 cU32 cSt hd
  have e2 : l = firstL := litU_inj (DataW.agg.inj hx).symm
  intro j hj
  have c := World.var?_cell (cs := cs) gF hvar j
  subst e2
  have h := nums_at .u32 firstL (j := j) hj
  rw [← e] at h
  exact c.trans (by simpa using h)
set_option maxRecDepth 100000 in
theorem rounds_at {W : World} {l : List (String × DataW Unit)} {ps : List MemPlace} (hl : DataW.LaidVars Tryd.prog W l ps) (hm : ("hearsay/digest.rounds", Rows.laid_hearsay_digest_rounds) ∈ l) : LaidR W := by
  obtain ⟨g, t, cs, fuel, p, hg, ht, hvar, hd⟩ := laid_at hl hm
  obtain rfl := Option.some.inj (gR.symm.trans hg)
  obtain rfl := Option.some.inj (gRT.symm.trans ht)
  obtain ⟨l, e, hn, hx, _⟩ := open_ints Tryd.underlying87 Tryd.underlying58 cU32 cRd hd
  have e2 : l = roundsL := litU_inj (DataW.agg.inj hx).symm
  intro j hj
  have c := World.var?_cell (cs := cs) gR hvar j
  subst e2
  have h := nums_at .u32 roundsL (j := j) hj
  rw [← e] at h
  exact c.trans (by simpa using h)
end Go.Proofs.YtoigoiefnapokaaDoor.T
