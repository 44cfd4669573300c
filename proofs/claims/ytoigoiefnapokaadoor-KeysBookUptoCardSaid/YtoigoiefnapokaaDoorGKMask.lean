/- The walk of digest.masked. -/
import Derived.Test.YtoigoiefnapokaaDoorGKNew
set_option linter.unusedVariables false
set_option linter.unusedSimpArgs false
namespace Go.Proofs.YtoigoiefnapokaaDoor.T
open Go.RowKit Go.Proofs.YtoigoiefnapokaaDoorW.PrintWords Go.Proofs.YtoigoiefnapokaaDoorW.PrintLast
def maskStep (m : Int) (i : Nat) (xs : List Int) : List Int := xs.set i (Go.bits .xor .u8 (xs.getD i 0) m)
def maskf (k : List Int) (m : Int) : List Int := iter (maskStep m) 64 k
theorem mask_len {k : List Int} (hk : k.length = 64) (m : Int) (j : Nat) : (iter (maskStep m) j k).length = 64 :=
  iter_inv (p := fun x : List Int => x.length = 64) (fun i x h => by simp [maskStep, h]) j _ hk
set_option maxHeartbeats 4000000 in
set_option maxRecDepth 100000 in
theorem masked_calls (k : List Int) (m : Int) (w : World) (hk : k.length = 64) :
    Calls Tryd.prog 23 #[.agg (nums .u8 k).toArray, .int .u8 m] w fun e w' => ∃ b, e = .returned (.slice (some ⟨b, 0, none⟩) 64 64) ∧ w'.heap[b]? = some (.cells (nums .u8 (maskf k m)).toArray 49 (0, 0)) ∧ w.heap.size ≤ b ∧ Below w.heap.size w w' := by
  have HKL := Aside0.mk hk
  clear hk
  go_enter Tryd.func23, Tryd.ntmps23
  go_wp2_with ((with_reducible refine gate_dst (N := 2) rfl ?_); refine box_event ?hg (N := 2) ?hd (cs := (nums .u8 k).toArray) (t := 49) ?hr ?_; (case hd => rfl); (case hg => rfl); (case hr => first | (go_simp; done) | (go_simp; rfl)); intro b hb w1 hbox hbl; have HBX := Aside0.mk hbox; have HBL := Aside0.mk hbl; have G := Aside0.mk (show w.heap.size ≤ b by omega); clear hb hbox hbl)
  go_loopg [6] 64 (fun gg s6 wr => ∃ (i : Nat), Aside0 (i ≤ 64 ∧ 64 - i ≤ gg) ∧ s6 = .int .i64 (i : Int) ∧ Aside0 (Below w.heap.size w wr) ∧ Aside0 (wr.heap[b]? = some (.cells (nums .u8 (iter (maskStep m) i k)).toArray 49 (0, 0))))
  case atStart => exact ⟨0, ⟨by omega, by omega⟩, rfl, HBL, HBX⟩
  case round =>
    obtain ⟨i, HI, rfl, HB, HX⟩ := hrel
    by_cases hlt : (i : Int) < 64
    · have hltb : decide ((i : Int) < 64) = true := decide_eq_true hlt
      have HI64 := Aside0.mk (show i < 64 by omega)
      have p0 : (0 : Int) ≤ (i : Int) := by omega
      have en : (i : Int) + 1 = ((i + 1 : Nat) : Int) := by omega
      have mn : i + 1 ≤ 9223372036854775807 := by omega
      obtain ⟨hwn, hvn⟩ := idx_at en mn
      obtain ⟨xs, hxs⟩ : ∃ xs, iter (maskStep m) i k = xs := ⟨_, rfl⟩
      have HST := Aside0.mk (show iter (maskStep m) (i + 1) k = xs.set i (Go.bits .xor .u8 (xs.getD i 0) m) by rw [← hxs]; rfl)
      have HLX := Aside0.mk (show xs.length = 64 by rw [← hxs]; exact mask_len HKL.out m i)
      rw [hxs] at HX
      have hc := row_cell HX.out i (Nat.lt_of_lt_of_eq HI64.out HLX.out.symm)
      have hz := blk_frozen HX.out i
      clear en mn hxs
      go_wp2
      clear hc hz hvn
      go_roundg (64 - (i + 1))
      case measure => clear hwn; have := HI.out; have := HI64.out; omega
      case rel =>
        refine ⟨i + 1, ⟨by clear hwn; have := HI64.out; omega, by clear hwn; have := HI.out; omega⟩, by first | (with_reducible rfl) | (simp [hwn]; done) | go_num, ⟨HB.out.setCell G.out _⟩, ⟨?_⟩⟩
        rw [HST.out]
        exact row_put HX.out i _
    · have hltb : decide ((i : Int) < 64) = false := decide_eq_false hlt
      obtain rfl : i = 64 := by have := HI.out; omega
      clear hlt
      go_wp2
      go_ret
      exact ⟨b, rfl, HX.out, G.out, HB.out⟩
end Go.Proofs.YtoigoiefnapokaaDoor.T
