/- The frames of the laws: arguments opened, what the row lists read off, the arguments handed back. -/
import Derived.Test.YtnomgmlfagiffaaDoorCards
import Derived.Test.YtnomgmlfagiffaaDoorTie
import Derived.Test.YtnomgmlfagiffaaDoorGMapsMt
import Derived.WalkKit
import Derived.ProofKit
import Derived.OpenShut
import Derived.Carry
import Derived.Deep.Strs
import Derived.Deep.DeepHandedRow
import Derived.Lib.LaidTab
set_option linter.unusedVariables false
namespace Go.Proofs.YtnomgmlfagiffaaDoor.T
open Go.ChangeShapes Go.WideShapes Go.ChangeAt Go.RowKit Go.Deep Go.Proofs.YtnomgmlfagiffaaDoorW.PrintWords
theorem cI : Tryd.prog.cellsOf 3 = 1 := by kernel_rfl
theorem cS : Tryd.prog.cellsOf 9 = 1 := by kernel_rfl
theorem cT : Tryd.prog.cellsOf 23 = 3 := by kernel_rfl
theorem cB : Tryd.prog.cellsOf 44 = 4 := by kernel_rfl
section
variable {H : Type} {enc : TypeId × Value → H}
def dT (t : Tm) : DataW H := .agg [.lit (.int .i64 t.f0), .lit (.int .i64 t.f1), .lit (.string t.f2.data.toList)]
theorem wf_inI {x : Int} (h : (Lit.int .i64 x).wf = true) : inI x = true := by
  simp [Lit.wf, IntKind.min, IntKind.max, IntKind.bits, IntKind.signed] at h
  simp [inI]
  omega
set_option maxRecDepth 100000 in
theorem open_T {W : World} {base : Nat} {sp : Nat → Bool} {held : Bool} {fuel : Nat} {cs : List Value} {x : DataW H × List MemPlace} (h : DataW.trod enc Tryd.prog W base sp held fuel 23 cs = some x) :
    ∃ t : Tm, cs = [.int .i64 t.f0, .int .i64 t.f1, .string t.f2] ∧ x = (dT t, []) ∧ okT t = true := by
  obtain ⟨y0, y1, y2, k, rfl, hl, u0, u1, u2⟩ := trod_struct3 Tryd.underlying23 h
  have hl3 : cs.length = 3 := by rw [hl, cT]
  match cs, hl3 with
  | [v0, v1, v2], _ =>
    simp only [cI, cS, List.drop, List.take] at u0 u1 u2
    obtain ⟨a, e0, rfl, w0⟩ := DataW.trod_int Tryd.underlying3 u0
    obtain ⟨b, e1, rfl, w1⟩ := DataW.trod_int Tryd.underlying3 u1
    obtain ⟨s, e2, rfl, w2⟩ := DataW.trod_string Tryd.underlying9 u2
    simp only [List.cons.injEq, and_true] at e0 e1 e2
    subst e0; subst e1; subst e2
    refine ⟨⟨a, b, s⟩, rfl, rfl, ?_⟩
    simp only [okT, Bool.and_eq_true, decide_eq_true_eq]
    exact ⟨wf_inI w0, wf_inI w1, by simpa [maxLen] using w2⟩
/-- What is read as before, behind the call. -/
theorem trodAll_below {P : Program} (hl : laidOutB P = true) {W W' : World} (hb : Below W.heap.size W W') : ∀ {ts : List TypeId} {vs : List Value} {ds : List (DataW H)} {ps : List MemPlace},
    (∀ t ∈ ts, P.readableRec t = true ∧ t < P.types.size) → DataW.TrodAll enc P W 0 (fun _ => true) true ts vs ds ps → (∀ x ∈ ps, x.block < W.heap.size) → DataW.TrodAll enc P W' 0 (fun b => decide (b < W.heap.size)) true ts vs ds ps
  | [], [], [], ps, _, h, _ => h
  | t :: ts, v :: vs, d :: ds, ps, hr, h, hlt => by
    obtain ⟨p, q, h1, h2, rfl⟩ := h
    exact ⟨p, q, h1.elim fun n hn => Below.trod hl (hr t (.head _)).1 (hr t (.head _)).2 ⟨n, hn⟩ hb (fun x hx => hlt x (List.mem_append_left _ hx)), trodAll_below hl hb (fun t ht => hr t (.tail _ ht)) h2 (fun x hx => hlt x (List.mem_append_right _ hx)), rfl⟩
  | [], _ :: _, _, _, _, h, _ => h.elim
  | [], [], _ :: _, _, _, h, _ => h.elim
  | _ :: _, [], _, _, _, h, _ => h.elim
  | _ :: _, _ :: _, [], _, _, h, _ => h.elim
/-- The post of a law that answers true and leaves what was there. -/
theorem post_true {P : Program} {f : Func} {s : ChangeSpec} {tb : TypeId} (hl : laidOutB P = true) (hr : ∀ t ∈ f.params.toList, P.readableRec t = true ∧ t < P.types.size) (hv : s.vars = []) (hrt : f.resultTypes = #[tb]) (hu : P.underlying tb = some .bool)
    {W W' : World} {args : Array Value} {ds gs : List (DataW H)} {before : List MemPlace} (hW : DataW.Whole enc P f.params.toList s.vars false W args.toList ds gs before)
    (hfn : s.fn H (ds ++ gs) = { results := [.lit (.bool true)], args := ds }) (hb : Below W.heap.size W W') : s.post enc P f false true false false W args (.bool true) W' := by
  have hW0 := hW
  have hlt := hW.lt
  obtain ⟨p, q, hA, hV, rfl, hfz, hnd⟩ := hW
  rw [hv] at hV
  obtain ⟨rfl, rfl⟩ := trodVars_none hV
  refine ⟨ds, [], p ++ [], [], p, [], hW0, ?_, ?_, ?_, hb.frame _, fun h => by cases h⟩
  · rw [hfn, hrt]
    exact trodAll_mk1 (shut_bool hu _)
  · rw [hfn]
    exact trodAll_below hl hb hr hA (fun x hx => hlt x (List.mem_append_left _ hx))
  · rw [hfn, hv]
    exact rfl
end
end Go.Proofs.YtnomgmlfagiffaaDoor.T
