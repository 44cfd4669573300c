/- The walk of hearsaylaw18.KeysFull. -/
import Derived.Test.YtoigoiefnapokaaDoorGKFull
import Derived.Laws.BytesArg
set_option linter.unusedVariables false
set_option linter.unusedSimpArgs false
namespace Go.Proofs.YtoigoiefnapokaaDoor.T
open Go.RowKit Go.Maps Go.MuLone Go.Proofs.YtoigoiefnapokaaDoorW.PrintWords Go.Proofs.YtoigoiefnapokaaDoorW.PrintLast
theorem conv_run {o : Oper} {a : Act} {w : World} (x : Operand) (ho : o.op = .convert 22 9 x) (b : Nat) (xs : List Int) (n c : Nat) (hn : xs.length = n) (hx : a.eval x = .slice (some ⟨b, 0, none⟩) n c) {t : TypeId} (hb : w.heap[b]? = some (.cells (nums .u8 xs).toArray t (0, 0))) :
    (execOp a.eval o).run Tryd.prog w = .ok (.value (.string (strOfNums xs))) w := by
  have h := run_convert_bytes_arg (P := Tryd.prog) w 22 5 Tryd.underlying22 Tryd.underlying5 b 0 n c xs hn (fun i hi => by
    rw [Nat.zero_add]
    refine arr_cell hb i ?_
    unfold nums
    rw [List.getElem?_map, List.getElem?_eq_getElem (by omega), List.getD_eq_getElem?_getD, List.getElem?_eq_getElem (by omega)]
    rfl) 9 Tryd.underlying9
  unfold execOp
  simp only [ho, hx, Sem.run_bind, h, Result.andThen_ok]
  rfl
theorem kn_is {i : Nat} (hi : i < 256) {q1 q2 : Int} (h1 : wrap64 (65 + wrap64 ((i : Int) / 16)) % 256 = q1) (h2 : 65 + (i : Int) % 16 = q2) : ({ data := #[107] } : ByteArray) ++ strOfNums [q1, q2] = kn i := by
  have e1 : q1 = ((65 + i / 16 : Nat) : Int) := by
    rw [← h1]
    unfold wrap64
    omega
  have e2 : q2 = ((65 + i % 16 : Nat) : Int) := by omega
  rw [e1, e2]
  have e3 : strOfNums [((65 + i / 16 : Nat) : Int), ((65 + i % 16 : Nat) : Int)] = ⟨#[UInt8.ofNat (65 + i / 16), UInt8.ofNat (65 + i % 16)]⟩ := rfl
  rw [e3]
  apply ByteArray.ext
  simp only [kn, ByteArray.data_append]
  rfl
theorem Full.kAA {sec : List Int} {y : RV} {w W : World} (h : Full sec 256 y w W) {b : Nat} (hb : y.b = b) :
    Calls Tryd.prog 14 #[.pointer (some ⟨b, 0, none⟩), .string ⟨#[107, 65, 65]⟩] W fun e w' => e = .returned (.int .i64 181) ∧ Below W.heap.size W w' :=
  h.old hb (kn 0) (by rw [kn_size]; decide) (by rw [kn_size]; decide) _ (gn_first sec (by decide))
theorem Full.empty {sec : List Int} {i : Nat} {y : RV} {w W : World} (h : Full sec i y w W) {b : Nat} (hb : y.b = b) :
    Calls Tryd.prog 14 #[.pointer (some ⟨b, 0, none⟩), .string ⟨#[]⟩] W fun e w' => e = .returned (.int .i64 36) ∧ Below W.heap.size W w' := h.bad hb ⟨#[]⟩ (Or.inl rfl)
theorem Full.sameB {y : RV} {b : Nat} (h : y.b = b) (s : ByteArray) (v : List Int) : (y.enrolled s v).b = b := h
theorem size_nil : Maps.size (.map [] : DataW Value) = 0 := rfl
set_option maxHeartbeats 8000000 in
set_option maxRecDepth 100000 in
theorem full_calls (w : World) (A : Option Addr) (c : Nat) (sec : List Int) (s : ByteArray) (hR : ReadsInt w .u8 A sec.length sec) (hn : sec.length ≤ 140737488355328) (hs : okS s) (hF : LaidF w) (hL : LaidR w) :
    Calls Tryd.prog 4 #[.slice A sec.length c, .string s] w fun e w' => e = .returned (.bool true) ∧ Below w.heap.size w w' := by
  have HR := Aside0.mk hR
  have HN := Aside0.mk hn
  have HO := Aside0.mk hs
  have HF := Aside0.mk hF
  have HL := Aside0.mk hL
  clear hR hn hs hF hL
  go_enter Tryd.func4, Tryd.ntmps4
  go_wp2_with (first
    | ((with_reducible refine gate_builtin (b := .append) (xs := #[.tmp 9, .tmp 10]) rfl ?_); at_builtin; go_loud (refine wpl_copyany rfl (.tmp 9) (.tmp 10) rfl rfl sec A c rfl HR.out HN.out ?_; intro v1 w1 hv; obtain ⟨⟨A1, c1, rfl, hr1, hc1, hf1⟩, hb1⟩ := hv; have HR1 := Aside0.mk hr1; have HC1 := Aside0.mk hc1; have HB1 := Aside0.mk hb1; clear hr1 hc1 hf1 hb1))
    | (go_at_call 13; go_loud (with_reducible refine (ring_calls w _ HB1.out A1 c1 sec HR1.out HC1.out HN.out).mono ?_; rintro e w2 ⟨x, rfl, hx, hsx, hnk, hns, hdk, hds, hb2, _, _, _, _⟩; have K2 := Aside0.mk (show Full sec 0 x w w2 from ⟨hx, by rw [hdk, gn_zero]; exact says_nil, hnk, by rw [hdk]; exact size_nil, hsx, hb2⟩); clear hx hsx hnk hns hdk hds hb2)))
  clear HR1 HC1 HB1 HR
  go_loopg [6] 256 (fun gg s6 wr => ∃ (i : Nat) (y : RV), Aside0 (i ≤ 256 ∧ 256 - i ≤ gg) ∧ s6 = .int .i64 (i : Int) ∧ Aside0 (Full sec i y w wr) ∧ Aside0 (y.b = x.b))
  case atStart => exact ⟨0, x, ⟨by omega, by omega⟩, rfl, K2, ⟨rfl⟩⟩
  case round =>
    clear K2
    obtain ⟨i, y, HI, rfl, HY, HE⟩ := hrel
    by_cases hlt : (i : Int) < 256
    · have hltb : decide ((i : Int) < 256) = true := decide_eq_true hlt
      have HI8 := Aside0.mk (show i < 256 by omega)
      have p0 : (0 : Int) ≤ (i : Int) := by omega
      have en : (i : Int) + 1 = ((i + 1 : Nat) : Int) := by omega
      have mn : i + 1 ≤ 9223372036854775807 := by omega
      obtain ⟨hwn, hvn⟩ := idx_at en mn
      clear en mn hlt
      obtain ⟨q1, hq1⟩ : ∃ q, wrap64 (65 + wrap64 ((i : Int) / 16)) % 256 = q := ⟨_, rfl⟩
      obtain ⟨q2, hq2⟩ : ∃ q, 65 + (i : Int) % 16 = q := ⟨_, rfl⟩
      have hkn := kn_is HI8.out hq1 hq2
      have hsz := kn_size i
      go_wp2_with (first
        | ((with_reducible refine gate_dst (N := 28) rfl ?_); go_loud (refine Kd.event_run rfl (conv_run (.tmp 27) rfl wr.heap.size [q1, q2] 2 2 rfl rfl (blk_new wr _)) ?_))
        | (go_at_call 14; (with_reducible refine (Full.empty K4.out HE4.out).mono ?_); rintro e w5 ⟨rfl, l5⟩; have K5 := Aside0.mk (K4.out.low l5); clear l5)
        | (go_at_call 14; (with_reducible refine ((HY.out.low (below_alloc (Below.refl _ _) _)).new HI8.out HE.out HF.out HL.out).mono ?_); (rintro e w4 ⟨rfl, hf⟩; have K4 := Aside0.mk hf; have HE4 := Aside0.mk (Full.sameB HE.out (kn i) (macf sec (bytesOf (kn i)))); clear hf))
        )
      go_roundg (256 - (i + 1))
      case measure => clear hwn hvn; have := HI.out; have := HI8.out; omega
      case rel => exact ⟨i + 1, y.enrolled (kn i) (macf sec (bytesOf (kn i))), ⟨by clear hwn hvn; have := HI8.out; omega, by clear hwn hvn; have := HI.out; omega⟩, by first | (with_reducible rfl) | (simp [hwn]; done) | go_num, K5, HE4⟩
    · have hltb : decide ((i : Int) < 256) = false := decide_eq_false hlt
      obtain rfl : i = 256 := by have := HI.out; omega
      clear hlt
      by_cases h0 : s.size = 0
      · obtain rfl : s = ⟨#[]⟩ := by
          apply ByteArray.ext
          exact Array.eq_empty_of_size_eq_zero h0
        clear h0
        go_wp2_with (first
          | (go_at_call 14; (with_reducible refine (Full.kAA K3.out HE.out).mono ?_); rintro e w7 ⟨rfl, l7⟩; have K4 := Aside0.mk (K3.out.low l7); clear l7)
          | (go_at_call 16; (with_reducible refine (Full.names K2.out HE.out).mono ?_); rintro e w6 ⟨A6, c6, rfl, l6⟩; have K3 := Aside0.mk (K2.out.low l6); clear l6)
          | (go_at_call 14; (with_reducible refine (Full.empty HY.out HE.out).mono ?_); rintro e w5 ⟨rfl, l5⟩; have K2 := Aside0.mk (HY.out.low l5); clear l5)
          )
        go_ret
        exact ⟨rfl, K4.out.below⟩
      · have he0 : (s.toList == []) = false := by
          rw [beq_eq_false_iff_ne]
          intro e
          have : s.toList.length = 0 := by rw [e]; rfl
          rw [ByteArray.toList_eq, data_length] at this
          omega
        by_cases h1 : 64 < s.size
        · have hl1 : decide ((s.size : Int) > 64) = true := decide_eq_true (by omega)
          have hl2 : decide ((64 : Int) < (s.size : Int)) = true := decide_eq_true (by omega)
          have HB := Aside0.mk h1
          clear h0 h1
          go_wp2_with (first
            | (go_at_call 14; (with_reducible refine (Full.kAA K3.out HE.out).mono ?_); rintro e w7 ⟨rfl, l7⟩; have K4 := Aside0.mk (K3.out.low l7); clear l7)
            | (go_at_call 16; (with_reducible refine (Full.names K2.out HE.out).mono ?_); rintro e w6 ⟨A6, c6, rfl, l6⟩; have K3 := Aside0.mk (K2.out.low l6); clear l6)
            | (go_at_call 14; (with_reducible refine (Full.bad HY.out HE.out s (Or.inr HB.out)).mono ?_); rintro e w5 ⟨rfl, l5⟩; have K2 := Aside0.mk (HY.out.low l5); clear l5)
            )
          go_ret
          exact ⟨rfl, K4.out.below⟩
        · have hl1 : decide ((s.size : Int) > 64) = false := decide_eq_false (by omega)
          have hl2 : decide ((64 : Int) < (s.size : Int)) = false := decide_eq_false (by omega)
          have HS0 := Aside0.mk (show 0 < s.size by omega)
          have HS1 := Aside0.mk (show s.size ≤ 64 by omega)
          clear h0 h1
          cases hg : gn sec 256 s with
          | none =>
            have HG := Aside0.mk hg
            have HAS := Aside0.mk (show (gn sec 256 s).isSome = false by rw [hg]; rfl)
            clear hg
            go_wp2_with (first
              | (go_at_call 14; (with_reducible refine (Full.kAA K3.out HE.out).mono ?_); rintro e w7 ⟨rfl, l7⟩; have K4 := Aside0.mk (K3.out.low l7); clear l7)
              | (go_at_call 16; (with_reducible refine (Full.names K2.out HE.out).mono ?_); rintro e w6 ⟨A6, c6, rfl, l6⟩; have K3 := Aside0.mk (K2.out.low l6); clear l6)
              | (go_at_call 14; (with_reducible refine (Full.full K1.out HE.out s HS0.out HS1.out HG.out).mono ?_); rintro e w5 ⟨rfl, l5⟩; have K2 := Aside0.mk (K1.out.low l5); clear l5)
              | (go_at_call 15; (with_reducible refine (Full.has HY.out HE.out s HO.out false HAS.out).mono ?_); rintro e w4 ⟨rfl, l4⟩; have K1 := Aside0.mk (HY.out.low l4); clear l4)
              )
            go_ret
            exact ⟨rfl, K4.out.below⟩
          | some v =>
            have HG := Aside0.mk hg
            have HAS := Aside0.mk (show (gn sec 256 s).isSome = true by rw [hg]; rfl)
            clear hg
            go_wp2_with (first
              | (go_at_call 14; (with_reducible refine (Full.kAA K3.out HE.out).mono ?_); rintro e w7 ⟨rfl, l7⟩; have K4 := Aside0.mk (K3.out.low l7); clear l7)
              | (go_at_call 16; (with_reducible refine (Full.names K2.out HE.out).mono ?_); rintro e w6 ⟨A6, c6, rfl, l6⟩; have K3 := Aside0.mk (K2.out.low l6); clear l6)
              | (go_at_call 14; (with_reducible refine (Full.old K1.out HE.out s HS0.out HS1.out v HG.out).mono ?_); rintro e w5 ⟨rfl, l5⟩; have K2 := Aside0.mk (K1.out.low l5); clear l5)
              | (go_at_call 15; (with_reducible refine (Full.has HY.out HE.out s HO.out true HAS.out).mono ?_); rintro e w4 ⟨rfl, l4⟩; have K1 := Aside0.mk (HY.out.low l4); clear l4)
              )
            go_ret
            exact ⟨rfl, K4.out.below⟩
end Go.Proofs.YtoigoiefnapokaaDoor.T
