/- The walk of hearsaylaw18.enrolled. -/
import Derived.Test.YtoigoiefnapokaaDoorGKClone
set_option linter.unusedVariables false
set_option linter.unusedSimpArgs false
namespace Go.Proofs.YtoigoiefnapokaaDoor.T
open Go.RowKit Go.Maps Go.MuLone Go.Proofs.YtoigoiefnapokaaDoorW.PrintWords Go.Proofs.YtoigoiefnapokaaDoorW.PrintLast
theorem append_zero (W : World) (ty : TypeId) (g c : Nat) (A : Option Addr) : (Builtin.append_ #[22, 22] ty #[.slice (some ⟨g, 0, none⟩) 0 0, .slice A 0 c]).run Tryd.prog W = .ok (.slice (some ⟨g, 0, none⟩) 0 0) W := by
  have h1 := Tryd.underlying22
  obtain ⟨i0, hi, hz⟩ := Option.map_eq_some_iff.1 infoU_
  cases A <;> simp [Builtin.append_, run_underlying h1, sizeOf, typeInfo, hi, hz, Builtin.lenOf, Builtin.firstCells, go_sem]
/-- append([]byte{}, b...), whatever b is. -/
theorem wpl_copyany {ops : Array Oper} {rest : List Oper} {o : Oper} {a : Act} {Q : Exit → Act → World → Prop} {W : World} (hgd : o.guard = none) (s x : Operand) (ho : o.op = .call { callee := .builtin .append, args := #[s, x], argTypes := #[22, 22] })
    (hs : a.eval s = .slice (some ⟨W.heap.size, 0, none⟩) 0 0) (b : List Int) (A : Option Addr) (c : Nat) (hx : a.eval x = .slice A b.length c) (hR : ReadsInt W .u8 A b.length b) (hl : b.length ≤ 140737488355328)
    (h : ∀ v1 w1, NewB W w1 v1 b → wpList Tryd.prog ops Q rest (a.put o.dst v1) w1) : wpList Tryd.prog ops Q (o :: rest) a (W.alloc (.cells #[] 5)) := by
  rcases Nat.eq_zero_or_pos b.length with h0 | hp
  · have hb : b = [] := List.length_eq_zero_iff.1 h0
    subst hb
    refine wpList_plain hgd fun K hK => ?_
    have hr := append_zero (W.alloc (.cells #[] 5)) o.type W.heap.size c A
    have hx' : a.eval x = .slice A 0 c := hx
    unfold Oper.wp execOp
    simp only [ho, resolve, invoke, builtin, Sem.run_bind, Sem.run_pure, Result.andThen_ok, List.map_toArray, List.map_cons, List.map_nil, hs, hx', hr]
    exact hK _ _ (h _ _ ⟨⟨some ⟨W.heap.size, 0, none⟩, 0, rfl, ⟨rfl, by simp, fun h => absurd h (Nat.lt_irrefl 0)⟩, Nat.le_refl _, fun ad' h h0 => absurd h0 (Nat.lt_irrefl 0)⟩, below_alloc (Below.refl _ _) _⟩)
  · obtain ⟨ad, rfl, _⟩ := hR.2.2 hp
    exact wpl_copyall hgd s x _ ho Tryd.underlying22 (by kernel_rfl) hs b ad c hx hR hp hl h
open Classical in
/-- The keys of the first i names. -/
noncomputable def gf (b : List Int) (i : Nat) (s : ByteArray) : Option (List Int) := if ∃ j : Nat, j < i ∧ s = nm (j : Int) then some (macf b (bytesOf s)) else none
theorem gf_zero (b : List Int) : gf b 0 = fun _ => none := by
  funext s
  unfold gf
  rw [if_neg]
  rintro ⟨j, hj, _⟩
  omega
theorem gf_succ (b : List Int) (i : Nat) : upd (gf b i) (nm (i : Int)) (macf b (bytesOf (nm (i : Int)))) = gf b (i + 1) := by
  funext s
  unfold upd gf
  by_cases h : s = nm (i : Int)
  · subst h
    rw [if_pos rfl, if_pos ⟨i, by omega, rfl⟩]
  · rw [if_neg h]
    by_cases h2 : ∃ j : Nat, j < i ∧ s = nm (j : Int)
    · obtain ⟨j, hj, e⟩ := h2
      rw [if_pos ⟨j, hj, e⟩, if_pos ⟨j, by omega, e⟩]
    · rw [if_neg h2, if_neg]
      rintro ⟨j, hj, e⟩
      by_cases hji : j = i
      · subst hji; exact h e
      · exact h2 ⟨j, by omega, e⟩
theorem gf_new (b : List Int) (i : Nat) (hi : i < 8) : gf b i (nm (i : Int)) = none := by
  unfold gf
  rw [if_neg]
  rintro ⟨j, hj, e⟩
  have := nm_inj e
  rw [nix_of i hi, nix_of j (by omega)] at this
  omega
theorem gf_old (b : List Int) (i : Nat) : gf b (i + 1) (nm (i : Int)) = some (macf b (bytesOf (nm (i : Int)))) := by
  unfold gf
  rw [if_pos ⟨i, by omega, rfl⟩]
theorem gf_all (b : List Int) (n : Int) : gf b 8 (nm n) = some (macf b (bytesOf (nm n))) := by
  unfold gf
  rw [if_pos ⟨nix n, nix_lt n, (nm_nix n).symm⟩]
theorem gf_is (b : List Int) (i : Nat) : ∀ s v, gf b i s = some v → IsD v := by
  intro s v h
  unfold gf at h
  split at h
  · injection h with h; subst h; exact mac_is _ _
  · cases h
theorem gf_put {D : DataW Value} {b : List Int} {i : Nat} (h : Says D klS okS (gf b i)) (hm : IsMap D) : Says (D.put (klS (nm (i : Int))) (.held (digV (macf b (bytesOf (nm (i : Int))))))) klS okS (gf b (i + 1)) := by
  have := h.put hm klS_key klS_inj (nm_okS (i : Int)) (macf b (bytesOf (nm (i : Int))))
  rwa [gf_succ] at this
set_option maxHeartbeats 8000000 in
set_option maxRecDepth 100000 in
theorem enrolled_calls (w : World) (A : Option Addr) (c : Nat) (b : List Int) (hR : ReadsInt w .u8 A b.length b) (hn : b.length ≤ 140737488355328) (hF : LaidF w) (hL : LaidR w) :
    Calls Tryd.prog 7 #[.slice A b.length c] w fun e w' => ∃ x : RV, e = .returned (.pointer (some ⟨x.b, 0, none⟩)) ∧ x.At w' w.heap.size 0 ∧ x.sec = b ∧ Says x.Dk klS okS (gf b 8) ∧ x.ns = 0 ∧ x.Ds = .map [] ∧ Below w.heap.size w w' := by
  have HR := Aside0.mk hR
  have HN := Aside0.mk hn
  have HF := Aside0.mk hF
  have HL := Aside0.mk hL
  clear hR hn hF hL
  go_enter Tryd.func7, Tryd.ntmps7
  go_wp2_with (first
    | ((with_reducible refine gate_builtin (b := .append) (xs := #[.tmp 5, .tmp 6]) rfl ?_); at_builtin; go_loud (refine wpl_copyany rfl (.tmp 5) (.tmp 6) rfl rfl b A c rfl HR.out HN.out ?_; intro v1 w1 hv; obtain ⟨⟨A1, c1, rfl, hr1, hc1, hf1⟩, hb1⟩ := hv; have HR1 := Aside0.mk hr1; have HC1 := Aside0.mk hc1; have HB1 := Aside0.mk hb1; clear hr1 hc1 hf1 hb1))
    | (go_at_call 13; go_loud (with_reducible refine (ring_calls w _ HB1.out A1 c1 b HR1.out HC1.out HN.out).mono ?_; rintro e w2 ⟨x, rfl, hx, hs, hnk, hns, hdk, hds, hb2, _, _, _, _⟩; have HX := Aside0.mk hx; have HXS := Aside0.mk (And.intro hs (And.intro hnk (And.intro hns (And.intro hdk hds)))); have HB2 := Aside0.mk hb2; clear hx hs hnk hns hdk hds hb2)))
  have HSZ2 := Aside0.mk HB2.out.size
  clear HR1 HC1 HB1 HR
  go_loopg [4] 8 (fun gg s4 wr => ∃ (i : Nat) (y : RV), Aside0 (i ≤ 8 ∧ 8 - i ≤ gg) ∧ s4 = .int .i64 (i : Int) ∧ Aside0 (y.At wr w.heap.size 0) ∧ Aside0 (y.b = x.b ∧ y.sec = b ∧ y.nk = i ∧ y.ns = 0 ∧ y.Ds = .map []) ∧ Aside0 (Says y.Dk klS okS (gf b i)) ∧ Aside0 (Below w.heap.size w wr))
  case atStart => exact ⟨0, x, ⟨by omega, by omega⟩, rfl, HX, ⟨rfl, HXS.out.1, HXS.out.2.1, HXS.out.2.2.1, HXS.out.2.2.2.2⟩, ⟨by rw [HXS.out.2.2.2.1, gf_zero]; exact says_nil⟩, HB2⟩
  case round =>
    clear HX HXS HB2
    obtain ⟨i, y, HI, rfl, HY, HE, HS, HB⟩ := hrel
    by_cases hlt : (i : Int) < 8
    · have hltb : decide ((i : Int) < 8) = true := decide_eq_true hlt
      have HI8 := Aside0.mk (show i < 8 by omega)
      have p0 : (0 : Int) ≤ (i : Int) := by omega
      have en : (i : Int) + 1 = ((i + 1 : Nat) : Int) := by omega
      have mn : i + 1 ≤ 9223372036854775807 := by omega
      obtain ⟨hwn, hvn⟩ := idx_at en mn
      clear en mn hlt
      go_wp2_with (first
        | (go_at_call 9; go_loud (with_reducible refine (name_calls (i : Int) _).mono ?_; rintro e w5 ⟨rfl, l5⟩; have Y5 := Aside0.mk (Y4.out.below l5); have HB5 := Aside0.mk (below_step HB4.out l5); clear l5))
        | (go_at_call 9; (with_reducible refine (name_calls (i : Int) _).mono ?_; rintro e w3 ⟨rfl, l3⟩; have Y3 := Aside0.mk (HY.out.below l3); have HB3 := Aside0.mk (below_step HB.out l3); clear l3))
        | (go_at_call 14; (refine Calls.mono (show Calls Tryd.prog 14 #[.pointer (some ⟨x.b, 0, none⟩), .string (nm (i : Int))] _ _ from by have h := enroll_old _ (y.enrolled (nm (i : Int)) (macf y.sec (bytesOf (nm (i : Int))))) _ Y5.out (gf b (i + 1)) (by have h := gf_put HS.out HY.out.keys.isMap; rw [← HE.out.2.1] at h; rw [← HE.out.2.1]; exact h) (gf_is b _) (nm (i : Int)) (nm_ok _).1 (nm_ok _).2 _ (gf_old b i); rw [show (y.enrolled (nm (i : Int)) (macf y.sec (bytesOf (nm (i : Int))))).b = x.b from HE.out.1] at h; exact h) ?_; rintro e w6 ⟨rfl, l6⟩; have Y6 := Aside0.mk (Y5.out.below l6); have HB6 := Aside0.mk (below_step HB5.out l6); clear l6))
        | (go_at_call 14; go_loud (refine Calls.mono (show Calls Tryd.prog 14 #[.pointer (some ⟨x.b, 0, none⟩), .string (nm (i : Int))] _ _ from by have h := enroll_calls w _ y Y3.out HB3.out (gf b i) HS.out (nm (i : Int)) (nm_ok _).1 (nm_ok _).2 (gf_new b i HI8.out) HF.out HL.out (by rw [HE.out.2.2.1]; have := HI8.out; omega); rw [HE.out.1] at h; exact h) ?_; rintro e w4 ⟨rfl, k4, y4, l4⟩; have Y4 := Aside0.mk y4; have HB4 := Aside0.mk l4; clear k4 y4 l4)))
      go_roundg (8 - (i + 1))
      case measure => clear hwn hvn; have := HI.out; have := HI8.out; omega
      case rel =>
        refine ⟨i + 1, y.enrolled (nm (i : Int)) (macf y.sec (bytesOf (nm (i : Int)))), ⟨by clear hwn hvn; have := HI8.out; omega, by clear hwn hvn; have := HI.out; omega⟩, by first | (with_reducible rfl) | (simp [hwn]; done) | go_num, Y6, ⟨HE.out.1, HE.out.2.1, by show y.nk + 1 = i + 1; rw [HE.out.2.2.1], HE.out.2.2.2.1, HE.out.2.2.2.2⟩, ⟨?_⟩, HB6⟩
        have h := gf_put HS.out HY.out.keys.isMap
        rw [← HE.out.2.1] at h ⊢
        exact h
    · have hltb : decide ((i : Int) < 8) = false := decide_eq_false hlt
      obtain rfl : i = 8 := by have := HI.out; omega
      clear hlt
      go_wp2
      go_ret
      exact ⟨y, by rw [HE.out.1]; rfl, HY.out, HE.out.2.1, HS.out, HE.out.2.2.2.1, HE.out.2.2.2.2, HB.out⟩
end Go.Proofs.YtoigoiefnapokaaDoor.T
