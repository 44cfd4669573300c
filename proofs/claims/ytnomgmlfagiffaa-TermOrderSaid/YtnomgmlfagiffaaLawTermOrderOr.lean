/- The statement hearsaylaw02.TermOrder holds: for every three atoms it returns true, and what was handed in reads as before. Conditions: the given row's own and no others. -/
import Derived.Test.YtnomgmlfagiffaaRows
import Derived.Test.YtnomgmlfagiffaaM0Or
import Derived.Test.YtnomgmlfagiffaaM5Or
import Derived.Test.YtnomgmlfagiffaaM6Or
set_option linter.unusedVariables false
namespace Go.Proofs.Ytnomgmlfagiffaa.T.LTermOrder
open Go.ChangeShapes Go.WideShapes Go.ChangeAt Go.RowKit Go.Deep Go.Proofs.YtnomgmlfagiffaaW.PrintWords
theorem own : ownKnob Try.prog.godebug = none := by kernel_rfl
set_option maxRecDepth 100000 in
theorem contract (H : Type) (enc : TypeId × Value → H) (W : World) (base : Nat) (args : Array Value) (ds gs : List (DataW H)) (before : List MemPlace)
    (hval : ∀ (j : Nat) t v, Try.f4.params[j]? = some t → args[j]? = some v → Value.okWide Try.prog W .any base t v)
    (hW : DataW.Whole enc Try.prog Try.f4.params.toList Rows.termOrderSpec.vars false W args.toList ds gs before) :
    Calls Try.prog 4 args W fun e W' => ∃ v, e = .returned v ∧ Rows.termOrderSpec.post enc Try.prog Try.f4 false true false false W args v W' := by
  have hW' := hW
  obtain ⟨p, q, hA0, hV, rfl, hfz, hnd⟩ := hW
  have hA : DataW.TrodAll enc Try.prog W 0 (fun _ => true) true Try.f4.params.toList args.toList ds p := hA0
  rw [Try.params4] at hA hval
  obtain ⟨v0, vs0, d0, ds0, p0, q0, hargs, rfl, rfl, h0, r0⟩ := trodAll_cons hA
  obtain ⟨v1, vs1, d1, ds1, p1, q1, rfl, rfl, rfl, h1, r1⟩ := trodAll_cons r0
  obtain ⟨v2, vs2, d2, ds2, p2, q2, rfl, rfl, rfl, h2, r2⟩ := trodAll_cons r1
  obtain ⟨rfl, rfl, rfl⟩ := trodAll_nil r2
  obtain rfl : args = #[v0, v1, v2] := by cases args; simp_all
  obtain ⟨rfl, rfl⟩ := trodVars_none hV
  obtain ⟨t0, m0, A0, c0, l0, rfl, hc0, hC0, ot0, ol0, hd0⟩ := arg_A (hval 0 30 v0 rfl rfl) h0
  obtain ⟨t1, m1, A1, c1, l1, rfl, hc1, hC1, ot1, ol1, hd1⟩ := arg_A (hval 1 30 v1 rfl rfl) h1
  obtain ⟨t2, m2, A2, c2, l2, rfl, hc2, hC2, ot2, ol2, hd2⟩ := arg_A (hval 2 30 v2 rfl rfl) h2
  clear hA0
  obtain ⟨k, hk⟩ := termOrder t0 t1 t2 m0 m1 m2 l0 l1 l2 ot0 ot1 ot2 ol0 ol1 ol2 (by have := hC0.2.1; simpa [maxLen] using this) (by have := hC1.2.1; simpa [maxLen] using this)
  refine (hearsaylaw02_TermOrder.calls k t0.f0 t0.f1 t0.f2 m0 A0 c0 l0 t1.f0 t1.f1 t1.f2 m1 A1 c1 l1 t2.f0 t2.f1 t2.f2 m2 A2 c2 l2 true W hC0 hc0 hC1 hc1 hC2 hc2 hk).mono fun e W' ⟨he, hb⟩ => ?_
  subst he
  exact ⟨_, rfl, post_true (by kernel_rfl) (by rw [Try.params4]; intro t ht; simp at ht; subst ht; exact ⟨by kernel_rfl, of_decide_eq_true (by kernel_rfl)⟩) rfl (by kernel_rfl) Try.underlying4 hW' rfl hb⟩
noncomputable def laidWorld (os : Os) : World := World.holding Try.prog os ⟨#[], #[], []⟩
def wArgs : Array Value := #[.agg #[.int .i64 0, .int .i64 0, .string ⟨#[]⟩, .string ⟨#[]⟩, .slice none 0 0], .agg #[.int .i64 0, .int .i64 0, .string ⟨#[]⟩, .string ⟨#[]⟩, .slice none 0 0], .agg #[.int .i64 0, .int .i64 0, .string ⟨#[]⟩, .string ⟨#[]⟩, .slice none 0 0]]
theorem laid_met (os : Os) : laidMet Try.prog Rows.termOrderRow.laid ((laidWorld os).forCall (fun _ _ => 0) ⟨#[], wArgs, []⟩).memory :=
  laidMet_of_run' 8 (by kernel_rfl) (by kernel_rfl)
theorem reads (os : Os) {H : Type} (enc : TypeId × Value → H) : ∃ places, DataW.whole enc Try.prog ((laidWorld os).forCall (fun _ _ => 0) ⟨#[], wArgs, []⟩).memory Try.f4.params.toList Rows.termOrderSpec.vars false wArgs.toList 8 = some ([.agg [dT ⟨0, 0, ⟨#[]⟩⟩, .lit (.string []), .nil], .agg [dT ⟨0, 0, ⟨#[]⟩⟩, .lit (.string []), .nil], .agg [dT ⟨0, 0, ⟨#[]⟩⟩, .lit (.string []), .nil]], [], places) :=
  ⟨[], by kernel_rfl⟩
set_option maxRecDepth 100000 in
theorem lifted (os : Os) (started : os.Started) (H : Type) (enc : TypeId × Value → H) (F : Stop.Interp) :
    ReturnsInHanded {} Try.checked os 4 .any ((OpenSpec.ofChange Rows.termOrderSpec).preRow enc Try.prog Try.f4 Rows.termOrderRow.domain false Rows.termOrderRow.laid) (((OpenSpec.ofChange Rows.termOrderSpec).at F).post enc Try.prog Try.f4 false true false false) := by
  obtain ⟨places, hx⟩ := reads os enc
  refine returnsInHanded_of_row (C := Try.checked) (s := OpenSpec.ofChange Rows.termOrderSpec) own started (by kernel_rfl) Try.func4
    (witness_row_at (enc := enc) (C := Try.checked) false (laidWorld os) wArgs rfl (by kernel_rfl) (by kernel_rfl) (by kernel_rfl)
      (OpenSpec.preRow_of_cond 8 hx (by kernel_rfl) (fun k hk => by cases hk) (by kernel_rfl) (laid_met os))) ?_
  intro W base args ds gs before hval hW _ _ _ hL _ _
  exact contract H enc W base args ds gs before hval hW
theorem said : Rows.TermOrderSaid :=
  OpenClaim.holds_of_cond 4 Try.f4 rfl rfl rfl rfl rfl rfl rfl ⟨rfl, rfl, rfl, rfl, rfl⟩ rfl rfl rfl rfl rfl (by kernel_rfl) Try.func4 (by kernel_rfl)
    (of_decide_eq_true (by kernel_rfl)) (by unfold Func.isWrapper; first | (rw [if_pos (by decide +kernel)]; kernel_rfl) | (rw [if_neg (by decide +kernel)]; exact ⟨rfl, rfl⟩))
    (fun os started H enc _ F => by rw [OpenClaim.pre_eq_preRow]; exact lifted os started H enc F)
#print axioms said
end Go.Proofs.Ytnomgmlfagiffaa.T.LTermOrder
