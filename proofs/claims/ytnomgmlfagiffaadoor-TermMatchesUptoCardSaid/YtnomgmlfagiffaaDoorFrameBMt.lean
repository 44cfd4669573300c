/- The frames of the laws: bindings and atoms opened; the bound on what is handed in. -/
import Derived.Test.YtnomgmlfagiffaaDoorFrameMt
import Derived.Test.YtnomgmlfagiffaaDoorGSortMt
import Derived.Deep.Slices
set_option linter.unusedVariables false
set_option linter.unusedSimpArgs false
namespace Go.Proofs.YtnomgmlfagiffaaDoor.T
open Go.ChangeShapes Go.WideShapes Go.ChangeAt Go.RowKit Go.Deep Go.Proofs.YtnomgmlfagiffaaDoorW.PrintWords
section
variable {H : Type} {enc : TypeId × Value → H}
def dB (b : Bd) : DataW H := .agg [.lit (.int .i64 b.f0), dT b.f1]
set_option maxRecDepth 100000 in
theorem open_B {W : World} {base : Nat} {sp : Nat → Bool} {held : Bool} {fuel : Nat} {cs : List Value} {x : DataW H × List MemPlace} (h : DataW.trod enc Tryd.prog W base sp held fuel 44 cs = some x) :
    ∃ b : Bd, cs = encB b ∧ x.1 = dB b ∧ okB b = true := by
  obtain ⟨y0, y1, k, rfl, hl, u0, u1⟩ := trod_struct2 Tryd.underlying44 h
  have hl4 : cs.length = 4 := by rw [hl, cB]
  match cs, hl4 with
  | [v0, v1, v2, v3], _ =>
    simp only [cI, cT, List.drop, List.take] at u0 u1
    obtain ⟨a, e0, rfl, w0⟩ := DataW.trod_int Tryd.underlying3 u0
    obtain ⟨t, e1, rfl, ot⟩ := open_T u1
    simp only [List.cons.injEq, and_true] at e0 e1
    subst e0
    obtain ⟨rfl, rfl, rfl⟩ := e1
    refine ⟨⟨a, t⟩, rfl, rfl, ?_⟩
    simp only [okB, Bool.and_eq_true]
    exact ⟨wf_inI w0, ot⟩
theorem add_add' (a : Addr) (m n : Nat) : (a.add m).add n = a.add (m + n) := by
  unfold Addr.add
  by_cases hm : m = 0
  · subst hm; simp
  · by_cases hn : n = 0
    · subst hn; simp [hm]
    · simp [hm, hn, Nat.add_assoc]
set_option maxRecDepth 100000 in
/-- A slice of such elements, as the walks read it. -/
theorem open_list {α : Type} {W : World} {base : Nat} {sp : Nat → Bool} {held : Bool} {fuel : Nat} {t e : TypeId} {sz : Nat} {cs : List Value} {x : DataW H × List MemPlace} (d : Kd α) (encL : α → List Value) (dat : α → DataW H) (ok : α → Bool)
    (hopen : ∀ (fuel : Nat) (cs : List Value) (y : DataW H × List MemPlace), DataW.trod enc Tryd.prog W base sp held fuel e cs = some y → ∃ b : α, cs = encL b ∧ y.1 = dat b ∧ ok b = true)
    (hsz : Tryd.prog.cellsOf e = sz) (hd : d.sz = sz) (hK : ∀ b, d.K W b (encL b)) (ht : Tryd.prog.underlying t = some (.slice e)) (h : DataW.trod enc Tryd.prog W base sp held fuel t cs = some x) :
    ∃ (A : Option Addr) (c : Nat) (l : List α), cs = [.slice A l.length c] ∧ l.length ≤ c ∧ d.C W A l.length l ∧ l.all ok = true ∧ ((x.1 = .nil ∧ l = []) ∨ ∃ r, x.1 = .slice (l.map dat) r) := by
  rcases open_slice ht h with ⟨rfl, rfl⟩ | ⟨a, len, cap, m, n, D, Pl, rfl, hb, hl, hm, hmm, rfl, hx⟩
  · exact ⟨none, 0, [], rfl, Nat.le_refl _, ⟨rfl, by simp, fun h => by simp at h⟩, rfl, .inl ⟨rfl, rfl⟩⟩
  · have hlm : len ≤ m := by rw [hmm]; split <;> omega
    have each : ∀ i, i < len → ∃ b : α, (∀ (j : Nat) (u : Value), (encL b)[j]? = some u → W.cell? (a.add (i * sz + j)) = some u) ∧ D i = dat b ∧ ok b = true := by
      intro i hi
      obtain ⟨cs', h1, h2⟩ := hx i (by omega)
      obtain ⟨b, rfl, hdb, hob⟩ := hopen _ _ _ h2
      rw [hsz] at h1
      obtain ⟨_, hlen, hcell⟩ := World.cells?_some h1
      refine ⟨b, fun j u hu => ?_, hdb, hob⟩
      have hj : j < sz := by rw [← hlen]; exact (List.getElem?_eq_some_iff.1 hu).1
      have := hcell j hj
      rw [add_add'] at this
      rw [this, hu]
    rcases Nat.eq_zero_or_pos len with h0 | h0
    · subst h0
      exact ⟨some a, cap, [], rfl, Nat.zero_le _, ⟨rfl, by simp, fun h => by simp at h⟩, rfl, .inr ⟨_, rfl⟩⟩
    · obtain ⟨b0, _⟩ := each 0 h0
      letI : Inhabited α := ⟨b0⟩
      obtain ⟨B, hB⟩ := choose_lt each
      have hlen : ((List.range len).map B).length = len := by simp
      refine ⟨some a, cap, (List.range len).map B, by rw [hlen], by rw [hlen]; exact hl, ⟨rfl, by rw [hlen]; simp [maxLen] at hm; omega, fun _ => ⟨a, rfl, fun j p hj => ?_⟩⟩, ?_, .inr ⟨(List.range (m - len)).map fun j => D (len + j), ?_⟩⟩
      · obtain ⟨hj1, hj2⟩ := List.getElem?_eq_some_iff.1 hj
        simp only [List.getElem_map, List.getElem_range] at hj2
        rw [hlen] at hj1
        subst hj2
        exact ⟨encL (B j), d.K_len (hK _), hK _, by rw [hd]; exact (hB j hj1).1⟩
      · rw [List.all_eq_true]
        intro b hb
        obtain ⟨i, hi, rfl⟩ := List.mem_map.1 hb
        exact (hB i (List.mem_range.1 hi)).2.2
      · rw [List.map_map, List.map_congr_left (fun i hi => (hB i (List.mem_range.1 hi)).2.1)]
        rfl
theorem open_Bs {W : World} {base : Nat} {sp : Nat → Bool} {held : Bool} {fuel : Nat} {cs : List Value} {x : DataW H × List MemPlace} (h : DataW.trod enc Tryd.prog W base sp held fuel 28 cs = some x) :
    ∃ (A : Option Addr) (c : Nat) (l : List Bd), cs = [.slice A l.length c] ∧ l.length ≤ c ∧ Kd.C k44 W A l.length l ∧ l.all okB = true ∧ ((x.1 = .nil ∧ l = []) ∨ ∃ r, x.1 = .slice (l.map dB) r) :=
  open_list k44 encB dB okB (fun _ _ _ h => open_B h) cB rfl (fun b => k44_mk W b) Tryd.underlying28 h
def encTs (t : Tm) : List Value := [.int .i64 t.f0, .int .i64 t.f1, .string t.f2]
theorem open_Ts {W : World} {base : Nat} {sp : Nat → Bool} {held : Bool} {fuel : Nat} {cs : List Value} {x : DataW H × List MemPlace} (h : DataW.trod enc Tryd.prog W base sp held fuel 24 cs = some x) :
    ∃ (A : Option Addr) (c : Nat) (l : List Tm), cs = [.slice A l.length c] ∧ l.length ≤ c ∧ Kd.C k23 W A l.length l ∧ l.all okT = true ∧ ((x.1 = .nil ∧ l = []) ∨ ∃ r, x.1 = .slice (l.map dT) r) :=
  open_list k23 encTs dT okT (fun _ _ _ h => by obtain ⟨t, e, hx, ho⟩ := open_T h; exact ⟨t, e, by rw [hx], ho⟩) cT rfl (fun b => k23_mk W b) Tryd.underlying24 h
/-- What an atom reads as: its qualifier, its name, its arguments. -/
def isA (d : DataW H) (t : Tm) (nm : ByteArray) (l : List Tm) : Prop := ∃ dl, d = .agg [dT t, .lit (.string nm.data.toList), dl] ∧ ((dl = .nil ∧ l = []) ∨ ∃ r, dl = .slice (l.map dT) r)
def isB (d : DataW H) (l : List Bd) : Prop := (d = .nil ∧ l = []) ∨ ∃ r, d = .slice (l.map dB) r
set_option maxRecDepth 100000 in
theorem arg_A {W : World} {base b0 : Nat} {sp : Nat → Bool} {held : Bool} {r : Reach} {v : Value} {d : DataW H} {ps : List MemPlace} (hval : Value.okWide Tryd.prog W r b0 26 v) (h : DataW.Trod enc Tryd.prog W base sp held 26 v d ps) :
    ∃ (t : Tm) (nm : ByteArray) (A : Option Addr) (c : Nat) (l : List Tm), v = .agg #[.int .i64 t.f0, .int .i64 t.f1, .string t.f2, .string nm, .slice A l.length c] ∧ l.length ≤ c ∧ Kd.C k23 W A l.length l ∧ okT t = true ∧ l.all okT = true ∧ isA d t nm l := by
  obtain ⟨cs, rfl, hcs⟩ := okWide_struct Tryd.underlying26 hval
  obtain ⟨fuel, h⟩ := h
  have h := (show DataW.trod enc Tryd.prog W base sp held fuel 26 cs.toList = some (d, ps) by simpa [Value.cells] using h)
  obtain ⟨y0, y1, y2, k, hx, hl, u0, u1, u2⟩ := trod_struct3 Tryd.underlying26 h
  have hl5 : cs.toList.length = 5 := by rw [hl]; kernel_rfl
  obtain ⟨cl⟩ := cs
  match cl, hl5 with
  | [v0, v1, v2, v3, v4], _ =>
    simp only [cT, cS, (show Tryd.prog.cellsOf 24 = 1 by kernel_rfl), List.drop, List.take] at u0 u1 u2
    obtain ⟨t, e0, rfl, ot⟩ := open_T u0
    obtain ⟨nm, e1, rfl, w1⟩ := DataW.trod_string Tryd.underlying9 u1
    obtain ⟨A, c, l, e2, hlc, hC, hok, hd⟩ := open_Ts u2
    simp only [List.cons.injEq, and_true] at e0 e1 e2
    obtain ⟨rfl, rfl, rfl⟩ := e0
    subst e1 e2
    injection hx with hx _
    exact ⟨t, nm, A, c, l, rfl, hlc, hC, ot, hok, y2.1, hx, hd⟩
set_option maxRecDepth 100000 in
theorem arg_B {W : World} {base b0 : Nat} {sp : Nat → Bool} {held : Bool} {r : Reach} {v : Value} {d : DataW H} {ps : List MemPlace} (hval : Value.okWide Tryd.prog W r b0 28 v) (h : DataW.Trod enc Tryd.prog W base sp held 28 v d ps) :
    ∃ (A : Option Addr) (c : Nat) (l : List Bd), v = .slice A l.length c ∧ l.length ≤ c ∧ Kd.C k44 W A l.length l ∧ l.all okB = true ∧ isB d l := by
  obtain ⟨A0, n0, c0, rfl⟩ := okWide_slice Tryd.underlying28 hval
  obtain ⟨fuel, h⟩ := h
  obtain ⟨A, c, l, e, hlc, hC, hok, hd⟩ := open_Bs (show DataW.trod enc Tryd.prog W base sp held fuel 28 [.slice A0 n0 c0] = some (d, ps) by simpa [Value.cells] using h)
  simp only [List.cons.injEq, and_true] at e
  rw [e]
  exact ⟨A, c, l, rfl, hlc, hC, hok, hd⟩
theorem bulk_list {α : Type} (dat : α → DataW H) (hd : ∀ x, 1 ≤ Rows.uptoBulk (dat x)) : ∀ l : List α, l.length ≤ Rows.uptoBulkAll (l.map dat)
  | [] => by simp
  | a :: r => by
    have := bulk_list dat hd r
    have := hd a
    simp only [List.map_cons, Rows.uptoBulkAll, List.length_cons]
    omega
theorem bulk_B {d : DataW H} {l : List Bd} (h : isB d l) : l.length ≤ Rows.uptoBulk d := by
  rcases h with ⟨_, rfl⟩ | ⟨r, rfl⟩
  · simp
  · have := bulk_list (H := H) dB (fun x => by simp [dB, Rows.uptoBulk]) l
    simp only [Rows.uptoBulk]
    omega
theorem bulk_A {d : DataW H} {t : Tm} {nm : ByteArray} {l : List Tm} (h : isA d t nm l) : l.length ≤ Rows.uptoBulk d := by
  obtain ⟨dl, rfl, h⟩ := h
  have h2 : l.length ≤ Rows.uptoBulk dl := by
    rcases h with ⟨_, rfl⟩ | ⟨r, rfl⟩
    · simp
    · have := bulk_list (H := H) dT (fun x => by simp [dT, Rows.uptoBulk]) l
      simp only [Rows.uptoBulk]
      omega
  simp only [Rows.uptoBulk, Rows.uptoBulkAll]
  omega
end
end Go.Proofs.YtnomgmlfagiffaaDoor.T
