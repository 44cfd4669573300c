/- The eight names; keys.New with bytes.Clone. -/
import Derived.Test.YtoigoiefnapokaaDoorGKEnr
set_option linter.unusedVariables false
set_option linter.unusedSimpArgs false
namespace Go.Proofs.YtoigoiefnapokaaDoor.T
open Go.RowKit Go.Maps Go.MuLone Go.Proofs.YtoigoiefnapokaaDoorW.PrintWords Go.Proofs.YtoigoiefnapokaaDoorW.PrintLast
def namesL : List ByteArray := [(⟨#[97, 108, 105, 99, 101]⟩ : ByteArray), (⟨#[98, 111, 98]⟩ : ByteArray), (⟨#[97]⟩ : ByteArray), (⟨#[97, 97]⟩ : ByteArray), (⟨#[115, 97, 121, 115]⟩ : ByteArray), (⟨#[120, 32, 121]⟩ : ByteArray), (⟨#[0]⟩ : ByteArray), (⟨#[97, 108]⟩ : ByteArray)]
/-- The number of a name, 0 to 7. -/
def nix (n : Int) : Nat := if Int.tmod n 8 < 0 then (Int.tmod n 8 + 8).toNat else (Int.tmod n 8).toNat
def nm (n : Int) : ByteArray := namesL.getD (nix n) ByteArray.empty
theorem nix_lt (n : Int) : nix n < 8 := by
  unfold nix
  have h1 : Int.tmod n 8 < 8 := Int.tmod_lt_of_pos n (by decide)
  split <;> omega
theorem nix_of (i : Nat) (h : i < 8) : nix (i : Int) = i := by
  unfold nix
  rw [Int.tmod_eq_emod_of_nonneg (by omega)]
  rw [if_neg (by omega)]
  omega
theorem name_f (n : Int) : hearsaylaw18_name.f n = some (nm n) := by
  have h1 : Int.tmod n 8 < 8 := Int.tmod_lt_of_pos n (by decide)
  have h0 : -8 < Int.tmod n 8 := by
    have := Int.lt_tmod_of_pos n (show (0 : Int) < 8 by decide)
    omega
  have hl : ((namesL.length : Nat) : Int) = 8 := rfl
  unfold hearsaylaw18_name.f
  change (if (Int.tmod n 8) < 0 then ((some namesL).bind fun y101 => (if 0 ≤ (wrap64 ((Int.tmod n 8) + 8)) then (if (wrap64 ((Int.tmod n 8) + 8)) < (y101.length : Int) then (some (rdOf ByteArray.empty y101 (wrap64 ((Int.tmod n 8) + 8)))) else (none)) else (none))) else ((some namesL).bind fun y101 => (if 0 ≤ (Int.tmod n 8) then (if (Int.tmod n 8) < (y101.length : Int) then (some (rdOf ByteArray.empty y101 (Int.tmod n 8))) else (none)) else (none)))) = _
  unfold nm nix
  split
  · rename_i h
    have hw : wrap64 (Int.tmod n 8 + 8) = Int.tmod n 8 + 8 := wrap_id (by omega) (by omega)
    rw [hw, Option.bind_some, if_pos (by omega), if_pos (by omega)]
    rfl
  · rename_i h
    rw [Option.bind_some, if_pos (by omega), if_pos (by omega)]
    rfl
theorem name_calls (n : Int) (w : World) : Calls Tryd.prog 9 #[.int .i64 n] w fun e w' => e = .returned (.string (nm n)) ∧ Below w.heap.size w w' := hearsaylaw18_name.calls n (nm n) w (name_f n)
theorem names_ok : ∀ i : Fin 8, 0 < (namesL.getD i.1 ByteArray.empty).size ∧ (namesL.getD i.1 ByteArray.empty).size ≤ 64 := by decide
theorem nm_ok (n : Int) : 0 < (nm n).size ∧ (nm n).size ≤ 64 := names_ok ⟨nix n, nix_lt n⟩
theorem nm_okS (n : Int) : okS (nm n) := Nat.le_trans (nm_ok n).2 (by simp [maxLen])
theorem names_ne : ∀ i j : Fin 8, namesL.getD i.1 ByteArray.empty = namesL.getD j.1 ByteArray.empty → i = j := by decide
theorem nm_inj {a b : Int} (h : nm a = nm b) : nix a = nix b := by
  have := names_ne ⟨nix a, nix_lt a⟩ ⟨nix b, nix_lt b⟩ h
  exact congrArg Fin.val this
theorem nm_nat (i : Nat) (h : i < 8) : nm (i : Int) = namesL.getD i ByteArray.empty := by unfold nm; rw [nix_of i h]
theorem nm_nix (n : Int) : nm ((nix n : Nat) : Int) = nm n := by unfold nm; rw [nix_of _ (nix_lt n)]
end Go.Proofs.YtoigoiefnapokaaDoor.T
