/- One byte changed: exclusive or of two bytes. -/
import Derived.Test.YtoigoiefnapokaaDoorGKSign
namespace Go.Proofs.YtoigoiefnapokaaDoor.T
open Go.RowKit Go.Maps Go.MuLone Go.Proofs.YtoigoiefnapokaaDoorW.PrintWords Go.Proofs.YtoigoiefnapokaaDoorW.PrintLast
theorem xor_all : ∀ a b : Fin 256, (0 ≤ Go.bits .xor .u8 (a.1 : Int) (b.1 : Int) ∧ Go.bits .xor .u8 (a.1 : Int) (b.1 : Int) < 256) ∧ (b.1 ≠ 0 → Go.bits .xor .u8 (a.1 : Int) (b.1 : Int) ≠ (a.1 : Int)) := by decide +kernel
theorem xor_byte {x y : Int} (hx : 0 ≤ x ∧ x < 256) (hy : 0 ≤ y ∧ y < 256) : (0 ≤ Go.bits .xor .u8 x y ∧ Go.bits .xor .u8 x y < 256) ∧ (y ≠ 0 → Go.bits .xor .u8 x y ≠ x) := by
  have h := xor_all ⟨x.toNat, by omega⟩ ⟨y.toNat, by omega⟩
  have ex : ((x.toNat : Nat) : Int) = x := Int.toNat_of_nonneg hx.1
  have ey : ((y.toNat : Nat) : Int) = y := Int.toNat_of_nonneg hy.1
  dsimp only at h
  rw [ex, ey] at h
  exact ⟨h.1, fun h0 => h.2 (by omega)⟩
theorem bad_is {sl : List Int} {i : Nat} {y : Int} (h : IsD sl) (hi : i < 32) (hy : 0 ≤ y ∧ y < 256) : IsD (sl.set i (Go.bits .xor .u8 (sl.getD i 0) y)) ∧ (y ≠ 0 → sl ≠ sl.set i (Go.bits .xor .u8 (sl.getD i 0) y)) := by
  have hl : i < sl.length := by rw [h.1]; exact hi
  have hg : sl.getD i 0 = sl[i] := by rw [List.getD_eq_getElem?_getD, List.getElem?_eq_getElem hl]; rfl
  have hb := xor_byte (h.2 _ (List.getElem_mem hl)) hy
  rw [hg]
  refine ⟨isD_set h _ _ hb.1, fun h0 he => ?_⟩
  have h2 := congrArg (fun l => l[i]?) he
  simp only [List.getElem?_set_self hl, List.getElem?_eq_getElem hl] at h2
  exact hb.2 h0 (Option.some.inj h2).symm
end Go.Proofs.YtoigoiefnapokaaDoor.T
