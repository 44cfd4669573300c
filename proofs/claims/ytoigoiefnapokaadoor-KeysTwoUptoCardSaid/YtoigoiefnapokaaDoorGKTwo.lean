/- The walk of hearsaylaw18.KeysTwo. -/
import Derived.Test.YtoigoiefnapokaaDoorGKThree
set_option linter.unusedVariables false
set_option linter.unusedSimpArgs false
namespace Go.Proofs.YtoigoiefnapokaaDoor.T
open Go.RowKit Go.Maps Go.MuLone Go.Proofs.YtoigoiefnapokaaDoorW.PrintWords Go.Proofs.YtoigoiefnapokaaDoorW.PrintLast
theorem keys_count1B {x : RV} {w W : World} {sec : List Int} {n : Int} {d : List Int} (h : Keys x w W sec [(n, d)]) {b : Nat} (hb : x.b = b) (hd : IsD d) (hO : OnlyP x.Ds) :
    Calls Tryd.prog 17 #[.pointer (some ⟨b, 0, none⟩), .string (nm n)] W fun e w' => ∃ (A : Option Addr) (c : Nat), e = .returned (.slice A 1 c) ∧ Below W.heap.size W w' := by
  subst hb
  exact keys_count1 h hd hO
set_option maxHeartbeats 32000000 in
set_option maxRecDepth 100000 in
theorem two_calls (w : World) (A0 A1 : Option Addr) (c0 c1 : Nat) (sec oth : List Int) (p : Pr) (hA0 : ReadsInt w .u8 A0 sec.length sec) (hn0 : sec.length ≤ 140737488355328) (hA1 : ReadsInt w .u8 A1 oth.length oth) (hn1 : oth.length ≤ 140737488355328) (hp : IsD p.2) (hF : LaidF w) (hL : LaidR w) :
    Calls Tryd.prog 5 #[.slice A0 sec.length c0, .slice A1 oth.length c1, pairP p] w fun e w' => e = .returned (.bool true) ∧ Below w.heap.size w w' := by
  have HA0 := Aside0.mk hA0
  have HA1 := Aside0.mk hA1
  have HN0 := Aside0.mk hn0
  have HN1 := Aside0.mk hn1
  have HPD := Aside0.mk hp
  have HF := Aside0.mk hF
  have HL := Aside0.mk hL
  obtain ⟨sv, hsv⟩ : ∃ v, sealf sec (p.1, p.2) = v := ⟨_, rfl⟩
  have HSE := Aside0.mk hsv
  have HSI := Aside0.mk (show IsD sv by rw [← hsv]; exact seal_is _ _)
  have HDs := Aside0.mk (digest_facts HSI.out.1)
  obtain ⟨uv, huv⟩ : ∃ v, sealf oth (p.1, p.2) = v := ⟨_, rfl⟩
  have HUE := Aside0.mk huv
  have HUI := Aside0.mk (show IsD uv by rw [← huv]; exact seal_is _ _)
  have HDu := Aside0.mk (digest_facts HUI.out.1)
  clear hA0 hA1 hn0 hn1 hp hF hL hsv huv
  go_enter Tryd.func5, Tryd.ntmps5
  unfold pairP
  go_wp2_with (first
    | ((with_reducible refine gate_dst (N := 5) rfl ?_); refine box_event ?hg (N := 5) ?hd (cs := (.int .i64 p.1 :: nums .u8 p.2).toArray) (t := 35) ?hr ?_; (case hd => rfl); (case hg => rfl); (case hr => first | (go_simp; done) | (go_simp; rfl)); intro b5 hb5 w1 hbox hbl; have B51 := Aside0.mk hbox; have HB1 := Aside0.mk hbl; clear hbox hbl hb5)
    | (go_at_call 7; (with_reducible refine (enrolled_keys w w3 HY3.out.below A1 c1 oth HA1.out HN1.out HF.out HL.out).mono ?_); rintro e w4 ⟨z, rfl, hz, hoz, hz1, hz2, hb4⟩; have HZ4 := Aside0.mk hz; have HU4 := Aside0.mk hz.at_.under; have LB4 := Aside0.mk hb4; have HZF := Aside0.mk (And.intro hz1 hz2); clear hz hoz hz1 hz2 hb4)
    | (go_at_call 7; (with_reducible refine (enrolled_keys w w2 HX2.out.below A0 c0 sec HA0.out HN0.out HF.out HL.out).mono ?_); rintro e w3 ⟨y, rfl, hy, hoy, hy1, hy2, hb3⟩; have HY3 := Aside0.mk hy; have HOY := Aside0.mk hoy; have HU3 := Aside0.mk hy.at_.under; have LB3 := Aside0.mk hb3; have HYF := Aside0.mk (And.intro hy1 hy2); clear hy hoy hy1 hy2 hb3)
    | (go_at_call 7; (with_reducible refine (enrolled_keys w w1 HB1.out A0 c0 sec HA0.out HN0.out HF.out HL.out).mono ?_); rintro e w2 ⟨x, rfl, hx, hox, hx1, hx2, hb2⟩; have HX2 := Aside0.mk hx; have HOX := Aside0.mk hox; have HU2 := Aside0.mk hx.at_.under; have LB2 := Aside0.mk hb2; clear hx hox hx1 hx2 hb2)
    )
  obtain ⟨nn, hnn⟩ : ∃ n, w4.heap.size = n := ⟨_, rfl⟩
  have T4 := Aside0.mk (show Three nn x y z w w4 sec oth [] [] [] by
    have u2 := HU2.out; have u3 := HU3.out; have u4 := HU4.out; have s3 := LB3.out.size; have s4 := LB4.out.size; have f3 := HYF.out; have f4 := HZF.out; have hw := HX2.out.below.size
    subst hnn
    refine ⟨(HX2.out.low LB3.out).low LB4.out, HY3.out.low LB4.out, HZ4.out, HOX.out, HOY.out, ⟨u2.le (by omega), u3.le (by omega), u4, by omega⟩, ?_, ?_, ?_⟩
    · have := u2.2.1; have := u2.2.2.1; exact ⟨by omega, by omega, by omega⟩
    · have := u2.2.1; have := u2.2.2.1; exact ⟨by omega, by omega, by omega⟩
    · have := u3.2.1; have := u3.2.2.1; exact ⟨by omega, by omega, by omega⟩)
  have B54 := Aside0.mk (blk_below (blk_below (blk_below B51.out LB2.out) LB3.out) LB4.out)
  have HN5 := Aside0.mk (show b5 < nn by rw [← hnn]; exact blk_lt B54.out)
  have HZ6 := Aside0.mk (show nn ≤ w4.drew.heap.size from Nat.le_of_eq hnn.symm)
  clear B51 HB1 HX2 HOX HU2 LB2 HY3 HOY HU3 LB3 HYF HZ4 HU4 LB4 HZF hnn
  refine start_ (n := 13) (S := fun w' => w'.heap[b5]? = some (.cells (.int .i64 p.1 :: nums .u8 p.2).toArray 35 (0, 0))) (ds := []) #[false, false, false, false, false, false, false, false, false, false, false, false, false] (by kernel_rfl) rfl rfl (blk_drew B54.out) (fun hHeld => ?_)
  refine pure_ (i := 0) (N := some 33) (v := ?v1) (a' := ?a1) #[true, false, false, false, false, false, false, false, false, false, false, false, false] rfl rfl (by kernel_rfl) (fun _ _ _ h => h) (Or.inl ⟨by rfl, ?hy1⟩) ?ha1 ?hh1
  case hy1 =>
    intro w'
    go_simp
    with_reducible rfl
  case ha1 =>
    simp only [Act.put, List.setIfInBounds_toArray, List.set_cons_zero, List.set_cons_succ]
    rfl
  refine pure_ (i := 1) (N := some 34) (v := (.pointer (some ⟨b5, 0, none⟩))) (a' := ?a2) #[true, true, false, false, false, false, false, false, false, false, false, false, false] rfl rfl (by kernel_rfl) (fun _ _ _ h => h) (Or.inl ⟨by rfl, fun w' => fld0_run (.tmp 5) rfl _ rfl⟩) ?ha2 ?hh2
  case ha2 =>
    simp only [Act.put, List.setIfInBounds_toArray, List.set_cons_zero, List.set_cons_succ]
    rfl
  refine take_ (i := 2) (N := some 35) (v := (.int .i64 p.1)) (a' := ?a3) #[true, true, true, false, false, false, false, false, false, false, false, false, false] rfl rfl (by kernel_rfl) (fun _ _ _ h => h) (Or.inl ⟨by rfl, fun w' s0 => loadI_run (.tmp 34) rfl _ rfl _ (arr_cell s0 0 rfl)⟩) hHeld ?ha3 ?hh3
  case ha3 =>
    simp only [Act.put, List.setIfInBounds_toArray, List.set_cons_zero, List.set_cons_succ]
    rfl
  refine pure_ (i := 4) (N := some 37) (v := (.pointer (some ⟨b5, 1, none⟩))) (a' := ?a4) #[true, true, true, false, true, false, false, false, false, false, false, false, false] rfl rfl (by kernel_rfl) (fun _ _ _ h => h) (Or.inl ⟨by rfl, fun w' => fldB1_run (.tmp 5) rfl b5 rfl⟩) ?ha4 ?hh4
  case ha4 =>
    simp only [Act.put, List.setIfInBounds_toArray, List.set_cons_zero, List.set_cons_succ]
    rfl
  refine take_ (i := 5) (N := some 38) (v := (.agg (nums .u8 p.2).toArray)) (a' := ?a5) #[true, true, true, false, true, true, false, false, false, false, false, false, false] rfl rfl (by kernel_rfl) (fun _ _ _ h => h) (Or.inl ⟨by rfl, fun w' s0 => loadD_run (.tmp 37) rfl _ rfl _ HPD.out.1 (boxP_dig s0)⟩) hHeld ?ha5 ?hh5
  case ha5 =>
    simp only [Act.put, List.setIfInBounds_toArray, List.set_cons_zero, List.set_cons_succ]
    rfl
  have keys_r6 := Aside0.mk (T4.out.drew)
  have b5_r6 := Aside0.mk (blk_drew B54.out)
  clear hHeld
  refine join_ 2 #[true, true, true, true, true, true, true, true, true, true, true, false, false] (fun b10 : Nat => [(36, .string (nm p.1)), (39, .tuple #[.agg (nums .u8 sv).toArray, .int .i64 0]), (10, .pointer (some ⟨b10, 0, none⟩)), (32, .tuple #[.agg (nums .u8 sv).toArray, .int .i64 0]), (40, .agg (nums .u8 sv).toArray), (41, .int .i64 0)]) (fun b10 w' => Three nn (x.signedWith (nm p.1) p.2 sv) y z w w' sec oth ([] ++ [(p.1, p.2)]) [] [] ∧ w'.heap[b5]? = some (.cells (.int .i64 p.1 :: nums .u8 p.2).toArray 35 (0, 0)) ∧ w'.heap[b10]? = some (.cells (nums .u8 zeroD).toArray 27 (0, 0)) ∧ nn ≤ b10) ?hcontr6 (fun hJ => ?hwaysr6)
  case hwaysr6 =>
    refine two_ (i := 3) (j := 10) (Ni := some 36) (Nj := some 10) #[true, true, true, true, true, true, false, false, false, false, false, false, false] #[true, true, true, false, true, true, false, false, false, false, true, false, false] rfl rfl rfl rfl (by kernel_rfl) (by decide) (by decide) (fun K hK => ?way1r6) (fun K hK => ?way2r6)
    case way1r6 =>
      refine goes_ Tryd.func9 (by kernel_rfl) rfl #[.int .i64 p.1] (by rfl) rfl rfl (by simp only [List.map_toArray, List.map_cons, List.map_nil]; rfl) ?_
      refine (name_calls p.1 _).mono ?_
      rintro e wnr61 ⟨rfl, lnr61⟩
      refine ⟨_, rfl, hK.out _ _ (blk_below b5_r6.out lnr61) (fun _ => ?_)⟩
      clear hK K
      refine two_ (i := 6) (j := 10) (Ni := some 39) (Nj := some 10) #[true, true, true, true, true, true, true, false, false, false, false, false, false] #[true, true, true, true, true, true, false, false, false, false, true, false, false] rfl rfl rfl rfl (by kernel_rfl) (by decide) (by decide) (fun K hK => ?way3r6) (fun K hK => ?way4r6)
      case way3r6 =>
        refine goes_ Tryd.func11 (by kernel_rfl) rfl #[.pointer (some ⟨x.b, 0, none⟩), .string (nm p.1), .agg (nums .u8 p.2).toArray] (by rfl) rfl rfl (by simp only [List.map_toArray, List.map_cons, List.map_nil]; rfl) ?_
        refine ((keys_r6.out.low lnr61).signX rfl HF.out HL.out p.1 p.2 sv HSE.out HPD.out (by decide)).mono ?_
        rintro e wsr62 ⟨rfl, ksr62, hsr62⟩
        refine ⟨_, rfl, hK.out _ _ (keep_blk ksr62 (keys_r6.out.low lnr61).kx.at_.signed (blk_below b5_r6.out lnr61)) (fun _ => ?_)⟩
        clear hK K
        refine pure_ (i := 7) (N := some 32) (v := ?v6) (a' := ?a6) #[true, true, true, true, true, true, true, true, false, false, false, false, false] rfl rfl (by kernel_rfl) (fun _ _ _ h => h) (Or.inl ⟨by rfl, ?hy6⟩) ?ha6 ?hh6
        case hy6 =>
          intro w'
          go_simp
          with_reducible rfl
        case ha6 =>
          simp only [Act.put, List.setIfInBounds_toArray, List.set_cons_zero, List.set_cons_succ]
          rfl
        refine pure_ (i := 8) (N := some 40) (v := ?v7) (a' := ?a7) #[true, true, true, true, true, true, true, true, true, false, false, false, false] rfl rfl (by kernel_rfl) (fun _ _ _ h => h) (Or.inl ⟨by rfl, ?hy7⟩) ?ha7 ?hh7
        case hy7 =>
          intro w'
          go_simp
          with_reducible rfl
        case ha7 =>
          simp only [Act.put, List.setIfInBounds_toArray, List.set_cons_zero, List.set_cons_succ]
          rfl
        refine pure_ (i := 9) (N := some 41) (v := ?v8) (a' := ?a8) #[true, true, true, true, true, true, true, true, true, true, false, false, false] rfl rfl (by kernel_rfl) (fun _ _ _ h => h) (Or.inl ⟨by rfl, ?hy8⟩) ?ha8 ?hh8
        case hy8 =>
          intro w'
          go_simp
          with_reducible rfl
        case ha8 =>
          simp only [Act.put, List.setIfInBounds_toArray, List.set_cons_zero, List.set_cons_succ]
          rfl
        refine one_ (i := 10) (N := some 10) #[true, true, true, true, true, true, true, true, true, true, true, false, false] rfl rfl (by kernel_rfl) (by decide) (fun K hK => ?_)
        refine box_step (by rfl) (N := 10) rfl (cs := (nums .u8 zeroD).toArray) (t := 27) (by first | (go_simp; done) | (go_simp; rfl)) ?_
        intro b10 b10e war63 b10b lar63
        refine hK.out _ _ (blk_below (keep_blk ksr62 (keys_r6.out.low lnr61).kx.at_.signed (blk_below b5_r6.out lnr61)) lar63) (fun _ => ?_)
        clear hK K
        have h := hJ b10 war63 ⟨(hsr62.low lar63), (blk_below (keep_blk ksr62 (keys_r6.out.low lnr61).kx.at_.signed (blk_below b5_r6.out lnr61)) lar63), b10b, by have z1 := lnr61.size; have z2 := ksr62.1; have z3 := lar63.size; have z0 := HZ6.out; omega⟩
        simp only [putAll, Act.put, List.setIfInBounds_toArray, List.set_cons_zero, List.set_cons_succ] at h ⊢
        exact h
      case way4r6 =>
        refine box_step (by rfl) (N := 10) rfl (cs := (nums .u8 zeroD).toArray) (t := 27) (by first | (go_simp; done) | (go_simp; rfl)) ?_
        intro b10 b10e war64 b10b lar64
        refine hK.out _ _ (blk_below (blk_below b5_r6.out lnr61) lar64) (fun _ => ?_)
        clear hK K
        refine one_ (i := 6) (N := some 39) #[true, true, true, true, true, true, true, false, false, false, true, false, false] rfl rfl (by kernel_rfl) (by decide) (fun K hK => ?_)
        refine goes_ Tryd.func11 (by kernel_rfl) rfl #[.pointer (some ⟨x.b, 0, none⟩), .string (nm p.1), .agg (nums .u8 p.2).toArray] (by rfl) rfl rfl (by simp only [List.map_toArray, List.map_cons, List.map_nil]; rfl) ?_
        refine (((keys_r6.out.low lnr61).low lar64).signX rfl HF.out HL.out p.1 p.2 sv HSE.out HPD.out (by decide)).mono ?_
        rintro e wsr65 ⟨rfl, ksr65, hsr65⟩
        refine ⟨_, rfl, hK.out _ _ (keep_blk ksr65 ((keys_r6.out.low lnr61).low lar64).kx.at_.signed (blk_below (blk_below b5_r6.out lnr61) lar64)) (fun _ => ?_)⟩
        clear hK K
        refine pure_ (i := 7) (N := some 32) (v := ?v9) (a' := ?a9) #[true, true, true, true, true, true, true, true, false, false, true, false, false] rfl rfl (by kernel_rfl) (fun _ _ _ h => h) (Or.inl ⟨by rfl, ?hy9⟩) ?ha9 ?hh9
        case hy9 =>
          intro w'
          go_simp
          with_reducible rfl
        case ha9 =>
          simp only [Act.put, List.setIfInBounds_toArray, List.set_cons_zero, List.set_cons_succ]
          rfl
        refine pure_ (i := 8) (N := some 40) (v := ?v10) (a' := ?a10) #[true, true, true, true, true, true, true, true, true, false, true, false, false] rfl rfl (by kernel_rfl) (fun _ _ _ h => h) (Or.inl ⟨by rfl, ?hy10⟩) ?ha10 ?hh10
        case hy10 =>
          intro w'
          go_simp
          with_reducible rfl
        case ha10 =>
          simp only [Act.put, List.setIfInBounds_toArray, List.set_cons_zero, List.set_cons_succ]
          rfl
        refine pure_ (i := 9) (N := some 41) (v := ?v11) (a' := ?a11) #[true, true, true, true, true, true, true, true, true, true, true, false, false] rfl rfl (by kernel_rfl) (fun _ _ _ h => h) (Or.inl ⟨by rfl, ?hy11⟩) ?ha11 ?hh11
        case hy11 =>
          intro w'
          go_simp
          with_reducible rfl
        case ha11 =>
          simp only [Act.put, List.setIfInBounds_toArray, List.set_cons_zero, List.set_cons_succ]
          rfl
        have h := hJ b10 wsr65 ⟨hsr65, (keep_blk ksr65 ((keys_r6.out.low lnr61).low lar64).kx.at_.signed (blk_below (blk_below b5_r6.out lnr61) lar64)), (keep_blk ksr65 ((keys_r6.out.low lnr61).low lar64).kx.at_.signed b10b), by have z1 := lnr61.size; have z0 := HZ6.out; omega⟩
        simp only [putAll, Act.put, List.setIfInBounds_toArray, List.set_cons_zero, List.set_cons_succ] at h ⊢
        exact h
    case way2r6 =>
      refine box_step (by rfl) (N := 10) rfl (cs := (nums .u8 zeroD).toArray) (t := 27) (by first | (go_simp; done) | (go_simp; rfl)) ?_
      intro b10 b10e war66 b10b lar66
      refine hK.out _ _ (blk_below b5_r6.out lar66) (fun _ => ?_)
      clear hK K
      refine one_ (i := 3) (N := some 36) #[true, true, true, true, true, true, false, false, false, false, true, false, false] rfl rfl (by kernel_rfl) (by decide) (fun K hK => ?_)
      refine goes_ Tryd.func9 (by kernel_rfl) rfl #[.int .i64 p.1] (by rfl) rfl rfl (by simp only [List.map_toArray, List.map_cons, List.map_nil]; rfl) ?_
      refine (name_calls p.1 _).mono ?_
      rintro e wnr67 ⟨rfl, lnr67⟩
      refine ⟨_, rfl, hK.out _ _ (blk_below (blk_below b5_r6.out lar66) lnr67) (fun _ => ?_)⟩
      clear hK K
      refine one_ (i := 6) (N := some 39) #[true, true, true, true, true, true, true, false, false, false, true, false, false] rfl rfl (by kernel_rfl) (by decide) (fun K hK => ?_)
      refine goes_ Tryd.func11 (by kernel_rfl) rfl #[.pointer (some ⟨x.b, 0, none⟩), .string (nm p.1), .agg (nums .u8 p.2).toArray] (by rfl) rfl rfl (by simp only [List.map_toArray, List.map_cons, List.map_nil]; rfl) ?_
      refine (((keys_r6.out.low lar66).low lnr67).signX rfl HF.out HL.out p.1 p.2 sv HSE.out HPD.out (by decide)).mono ?_
      rintro e wsr68 ⟨rfl, ksr68, hsr68⟩
      refine ⟨_, rfl, hK.out _ _ (keep_blk ksr68 ((keys_r6.out.low lar66).low lnr67).kx.at_.signed (blk_below (blk_below b5_r6.out lar66) lnr67)) (fun _ => ?_)⟩
      clear hK K
      refine pure_ (i := 7) (N := some 32) (v := ?v12) (a' := ?a12) #[true, true, true, true, true, true, true, true, false, false, true, false, false] rfl rfl (by kernel_rfl) (fun _ _ _ h => h) (Or.inl ⟨by rfl, ?hy12⟩) ?ha12 ?hh12
      case hy12 =>
        intro w'
        go_simp
        with_reducible rfl
      case ha12 =>
        simp only [Act.put, List.setIfInBounds_toArray, List.set_cons_zero, List.set_cons_succ]
        rfl
      refine pure_ (i := 8) (N := some 40) (v := ?v13) (a' := ?a13) #[true, true, true, true, true, true, true, true, true, false, true, false, false] rfl rfl (by kernel_rfl) (fun _ _ _ h => h) (Or.inl ⟨by rfl, ?hy13⟩) ?ha13 ?hh13
      case hy13 =>
        intro w'
        go_simp
        with_reducible rfl
      case ha13 =>
        simp only [Act.put, List.setIfInBounds_toArray, List.set_cons_zero, List.set_cons_succ]
        rfl
      refine pure_ (i := 9) (N := some 41) (v := ?v14) (a' := ?a14) #[true, true, true, true, true, true, true, true, true, true, true, false, false] rfl rfl (by kernel_rfl) (fun _ _ _ h => h) (Or.inl ⟨by rfl, ?hy14⟩) ?ha14 ?hh14
      case hy14 =>
        intro w'
        go_simp
        with_reducible rfl
      case ha14 =>
        simp only [Act.put, List.setIfInBounds_toArray, List.set_cons_zero, List.set_cons_succ]
        rfl
      have h := hJ b10 wsr68 ⟨hsr68, (keep_blk ksr68 ((keys_r6.out.low lar66).low lnr67).kx.at_.signed (blk_below (blk_below b5_r6.out lar66) lnr67)), (keep_blk ksr68 ((keys_r6.out.low lar66).low lnr67).kx.at_.signed (blk_below b10b lnr67)), by have z0 := HZ6.out; omega⟩
      simp only [putAll, Act.put, List.setIfInBounds_toArray, List.set_cons_zero, List.set_cons_succ] at h ⊢
      exact h
  intro b10 wjr6 hFr6
  obtain ⟨hkeysr6, hb5r6, hbzr6, hbsr6⟩ := hFr6
  clear keys_r6 b5_r6
  simp only [putAll, Act.put, List.setIfInBounds_toArray, List.set_cons_zero, List.set_cons_succ]
  refine one_ (i := 11) (N := none) #[true, true, true, true, true, true, true, true, true, true, true, true, false] rfl rfl (by kernel_rfl) (by decide) (fun K hK => ?_)
  rw [if_pos (by rfl)]
  refine wp_store_row 27 (.tmp 10) (.tmp 40) rfl b10 (nums .u8 sv).toArray rfl rfl 27 _ hbzr6 HDs.out.1 (by rw [HDs.out.2.1]; rfl) HDs.out.2.2 ?_
  have HNb10 := Aside0.mk hbsr6
  have Tr6 := Aside0.mk (hkeysr6.row (b := b10) (by have := HNb10.out; omega) (nums .u8 sv).toArray)
  have b10r6 := Aside0.mk (setRow_heap _ b10 _ (nums .u8 sv).toArray _ _ hbzr6)
  have b5r6s := Aside0.mk (blk_row (b := b10) hb5r6 (by have := HNb10.out; have := HN5.out; omega) (nums .u8 sv).toArray)
  obtain ⟨x1, hxr6⟩ : ∃ u, (x.signedWith (nm p.1) p.2 sv) = u := ⟨_, rfl⟩
  have HX1 := Aside0.mk (show x1.b = x.b by rw [← hxr6]; rfl)
  rw [hxr6, List.nil_append] at Tr6
  clear hkeysr6 hb5r6 hbzr6 hbsr6 hxr6
  generalize wjr6.setRow b10 (nums .u8 sv).toArray = wr6 at Tr6 b10r6 b5r6s ⊢
  refine hK.out _ _ (b5r6s.out) (fun _ => ?_)
  clear hK K
  refine norm_ (a' := ?anr6) ?hnr6 ?hmr6
  case hnr6 =>
    show Act.put _ none _ = _
    simp only [Act.put]
    rfl
  refine pure_ (i := 12) (N := some 11) (v := ?v15) (a' := ?a15) #[true, true, true, true, true, true, true, true, true, true, true, true, true] rfl rfl (by kernel_rfl) (fun _ _ _ h => h) (Or.inl ⟨by rfl, ?hy15⟩) ?ha15 ?hh15
  case hy15 =>
    intro w'
    go_simp
    with_reducible rfl
  case ha15 =>
    simp only [Act.put, List.setIfInBounds_toArray, List.set_cons_zero, List.set_cons_succ]
    rfl
  refine done_ (by kernel_rfl) ?_
  go_wp2_with (fail)
  refine start_ (n := 31) (S := fun w' => Three nn x1 y z w w' sec oth [(p.1, p.2)] [] [] ∧ w'.heap[b5]? = some (.cells (.int .i64 p.1 :: nums .u8 p.2).toArray 35 (0, 0)) ∧ w'.heap[b10]? = some (.cells (nums .u8 sv).toArray 27 (0, 0))) (ds := []) #[false, false, false, false, false, false, false, false, false, false, false, false, false, false, false, false, false, false, false, false, false, false, false, false, false, false, false, false, false, false, false] (by kernel_rfl) rfl rfl ⟨Tr6.out.drew, blk_drew b5r6s.out, blk_drew b10r6.out⟩ (fun hHeld => ?_)
  refine pure_ (i := 0) (N := some 42) (v := ?v16) (a' := ?a16) #[true, false, false, false, false, false, false, false, false, false, false, false, false, false, false, false, false, false, false, false, false, false, false, false, false, false, false, false, false, false, false] rfl rfl (by kernel_rfl) (fun _ _ _ h => h) (Or.inl ⟨by rfl, ?hy16⟩) ?ha16 ?hh16
  case hy16 =>
    intro w'
    go_simp
    with_reducible rfl
  case ha16 =>
    simp only [Act.put, List.setIfInBounds_toArray, List.set_cons_zero, List.set_cons_succ]
    rfl
  refine pure_ (i := 1) (N := some 43) (v := ?v17) (a' := ?a17) #[true, true, false, false, false, false, false, false, false, false, false, false, false, false, false, false, false, false, false, false, false, false, false, false, false, false, false, false, false, false, false] rfl rfl (by kernel_rfl) (fun _ _ _ h => h) (Or.inl ⟨by rfl, ?hy17⟩) ?ha17 ?hh17
  case hy17 =>
    intro w'
    go_simp
    with_reducible rfl
  case ha17 =>
    simp only [Act.put, List.setIfInBounds_toArray, List.set_cons_zero, List.set_cons_succ]
    rfl
  refine pure_ (i := 2) (N := some 44) (v := ?v18) (a' := ?a18) #[true, true, true, false, false, false, false, false, false, false, false, false, false, false, false, false, false, false, false, false, false, false, false, false, false, false, false, false, false, false, false] rfl rfl (by kernel_rfl) (fun _ _ _ h => h) (Or.inl ⟨by rfl, ?hy18⟩) ?ha18 ?hh18
  case hy18 =>
    intro w'
    go_simp
    with_reducible rfl
  case ha18 =>
    simp only [Act.put, List.setIfInBounds_toArray, List.set_cons_zero, List.set_cons_succ]
    rfl
  refine pure_ (i := 3) (N := some 45) (v := ?v19) (a' := ?a19) #[true, true, true, true, false, false, false, false, false, false, false, false, false, false, false, false, false, false, false, false, false, false, false, false, false, false, false, false, false, false, false] rfl rfl (by kernel_rfl) (fun _ _ _ h => h) (Or.inl ⟨by rfl, ?hy19⟩) ?ha19 ?hh19
  case hy19 =>
    intro w'
    go_simp
    with_reducible rfl
  case ha19 =>
    simp only [Act.put, List.setIfInBounds_toArray, List.set_cons_zero, List.set_cons_succ]
    rfl
  refine pure_ (i := 4) (N := some 46) (v := (.pointer (some ⟨b5, 0, none⟩))) (a' := ?a20) #[true, true, true, true, true, false, false, false, false, false, false, false, false, false, false, false, false, false, false, false, false, false, false, false, false, false, false, false, false, false, false] rfl rfl (by kernel_rfl) (fun _ _ _ h => h) (Or.inl ⟨by rfl, fun w' => fld0_run (.tmp 5) rfl _ rfl⟩) ?ha20 ?hh20
  case ha20 =>
    simp only [Act.put, List.setIfInBounds_toArray, List.set_cons_zero, List.set_cons_succ]
    rfl
  refine take_ (i := 5) (N := some 47) (v := (.int .i64 p.1)) (a' := ?a21) #[true, true, true, true, true, true, false, false, false, false, false, false, false, false, false, false, false, false, false, false, false, false, false, false, false, false, false, false, false, false, false] rfl rfl (by kernel_rfl) (fun _ _ _ h => h) (Or.inl ⟨by rfl, fun w' s0 => loadI_run (.tmp 46) rfl _ rfl _ (arr_cell s0.2.1 0 rfl)⟩) hHeld ?ha21 ?hh21
  case ha21 =>
    simp only [Act.put, List.setIfInBounds_toArray, List.set_cons_zero, List.set_cons_succ]
    rfl
  refine pure_ (i := 7) (N := some 49) (v := (.pointer (some ⟨b5, 1, none⟩))) (a' := ?a22) #[true, true, true, true, true, true, false, true, false, false, false, false, false, false, false, false, false, false, false, false, false, false, false, false, false, false, false, false, false, false, false] rfl rfl (by kernel_rfl) (fun _ _ _ h => h) (Or.inl ⟨by rfl, fun w' => fldB1_run (.tmp 5) rfl b5 rfl⟩) ?ha22 ?hh22
  case ha22 =>
    simp only [Act.put, List.setIfInBounds_toArray, List.set_cons_zero, List.set_cons_succ]
    rfl
  refine take_ (i := 8) (N := some 50) (v := (.agg (nums .u8 p.2).toArray)) (a' := ?a23) #[true, true, true, true, true, true, false, true, true, false, false, false, false, false, false, false, false, false, false, false, false, false, false, false, false, false, false, false, false, false, false] rfl rfl (by kernel_rfl) (fun _ _ _ h => h) (Or.inl ⟨by rfl, fun w' s0 => loadD_run (.tmp 49) rfl _ rfl _ HPD.out.1 (boxP_dig s0.2.1)⟩) hHeld ?ha23 ?hh23
  case ha23 =>
    simp only [Act.put, List.setIfInBounds_toArray, List.set_cons_zero, List.set_cons_succ]
    rfl
  refine take_ (i := 9) (N := some 51) (v := (.agg (nums .u8 sv).toArray)) (a' := ?a24) #[true, true, true, true, true, true, false, true, true, true, false, false, false, false, false, false, false, false, false, false, false, false, false, false, false, false, false, false, false, false, false] rfl rfl (by kernel_rfl) (fun _ _ _ h => h) (Or.inl ⟨by rfl, fun w' s0 => loadB_run (.tmp 10) rfl b10 rfl _ HSI.out.1 s0.2.2⟩) hHeld ?ha24 ?hh24
  case ha24 =>
    simp only [Act.put, List.setIfInBounds_toArray, List.set_cons_zero, List.set_cons_succ]
    rfl
  refine one_ (i := 6) (N := some 48) #[true, true, true, true, true, true, true, true, true, true, false, false, false, false, false, false, false, false, false, false, false, false, false, false, false, false, false, false, false, false, false] rfl rfl (by kernel_rfl) (by decide) (fun K hK => ?_)
  refine goes_ Tryd.func9 (by kernel_rfl) rfl #[.int .i64 p.1] (by rfl) rfl rfl (by simp only [List.map_toArray, List.map_cons, List.map_nil]; rfl) ?_
  refine (name_calls p.1 _).mono ?_
  rintro e wn101 ⟨rfl, ln101⟩
  refine ⟨_, rfl, hK.out _ _ ⟨hHeld.1.low ln101, blk_below hHeld.2.1 ln101, blk_below hHeld.2.2 ln101⟩ (fun hHeld => ?_)⟩
  clear hK K ln101
  refine norm_ (a' := ?a25) ?ha25 ?hh25
  case ha25 =>
    show Act.put _ (some 48) _ = _
    simp only [Act.put, List.setIfInBounds_toArray, List.set_cons_zero, List.set_cons_succ]
    rfl
  refine one_ (i := 10) (N := some 52) #[true, true, true, true, true, true, true, true, true, true, true, false, false, false, false, false, false, false, false, false, false, false, false, false, false, false, false, false, false, false, false] rfl rfl (by kernel_rfl) (by decide) (fun K hK => ?_)
  refine goes_ Tryd.func10 (by kernel_rfl) rfl #[.pointer (some ⟨y.b, 0, none⟩), .string (nm p.1), .agg (nums .u8 p.2).toArray, .agg (nums .u8 sv).toArray] (by rfl) rfl rfl (by simp only [List.map_toArray, List.map_cons, List.map_nil]; rfl) ?_
  refine (show Calls Tryd.prog 10 #[.pointer (some ⟨y.b, 0, none⟩), .string (nm p.1), .agg (nums .u8 p.2).toArray, .agg (nums .u8 sv).toArray] _ _ from hHeld.1.ky.verifyB rfl p.1 p.2 sv HPD.out HSI.out).mono ?_
  rintro e wv102 ⟨rfl, lv102⟩
  rw [show decide (sf sec [] (nm p.1, p.2) = some sv) = false from (by rw [sf_nil]; exact decide_eq_false (fun h => by cases h))]
  refine ⟨_, rfl, hK.out _ _ ⟨hHeld.1.low lv102, blk_below hHeld.2.1 lv102, blk_below hHeld.2.2 lv102⟩ (fun hHeld => ?_)⟩
  clear hK K lv102
  refine norm_ (a' := ?a26) ?ha26 ?hh26
  case ha26 =>
    show Act.put _ (some 52) _ = _
    simp only [Act.put, List.setIfInBounds_toArray, List.set_cons_zero, List.set_cons_succ]
    rfl
  refine pure_ (i := 11) (N := some 53) (v := ?v27) (a' := ?a27) #[true, true, true, true, true, true, true, true, true, true, true, true, false, false, false, false, false, false, false, false, false, false, false, false, false, false, false, false, false, false, false] rfl rfl (by kernel_rfl) (fun _ _ _ h => h) (Or.inl ⟨by rfl, ?hy27⟩) ?ha27 ?hh27
  case hy27 =>
    intro w'
    go_simp
    with_reducible rfl
  case ha27 =>
    simp only [Act.put, List.setIfInBounds_toArray, List.set_cons_zero, List.set_cons_succ]
    rfl
  refine pure_ (i := 12) (N := some 54) (v := ?v28) (a' := ?a28) #[true, true, true, true, true, true, true, true, true, true, true, true, true, false, false, false, false, false, false, false, false, false, false, false, false, false, false, false, false, false, false] rfl rfl (by kernel_rfl) (fun _ _ _ h => h) (Or.inl ⟨by rfl, ?hy28⟩) ?ha28 ?hh28
  case hy28 =>
    intro w'
    go_simp
    with_reducible rfl
  case ha28 =>
    simp only [Act.put, List.setIfInBounds_toArray, List.set_cons_zero, List.set_cons_succ]
    rfl
  refine pure_ (i := 13) (N := some 55) (v := ?v29) (a' := ?a29) #[true, true, true, true, true, true, true, true, true, true, true, true, true, true, false, false, false, false, false, false, false, false, false, false, false, false, false, false, false, false, false] rfl rfl (by kernel_rfl) (fun _ _ _ h => h) (Or.inl ⟨by rfl, ?hy29⟩) ?ha29 ?hh29
  case hy29 =>
    intro w'
    go_simp
    with_reducible rfl
  case ha29 =>
    simp only [Act.put, List.setIfInBounds_toArray, List.set_cons_zero, List.set_cons_succ]
    rfl
  refine pure_ (i := 14) (N := some 56) (v := (.pointer (some ⟨b5, 0, none⟩))) (a' := ?a30) #[true, true, true, true, true, true, true, true, true, true, true, true, true, true, true, false, false, false, false, false, false, false, false, false, false, false, false, false, false, false, false] rfl rfl (by kernel_rfl) (fun _ _ _ h => h) (Or.inl ⟨by rfl, fun w' => fld0_run (.tmp 5) rfl _ rfl⟩) ?ha30 ?hh30
  case ha30 =>
    simp only [Act.put, List.setIfInBounds_toArray, List.set_cons_zero, List.set_cons_succ]
    rfl
  refine take_ (i := 15) (N := some 57) (v := (.int .i64 p.1)) (a' := ?a31) #[true, true, true, true, true, true, true, true, true, true, true, true, true, true, true, true, false, false, false, false, false, false, false, false, false, false, false, false, false, false, false] rfl rfl (by kernel_rfl) (fun _ _ _ h => h) (Or.inl ⟨by rfl, fun w' s0 => loadI_run (.tmp 56) rfl _ rfl _ (arr_cell s0.2.1 0 rfl)⟩) hHeld ?ha31 ?hh31
  case ha31 =>
    simp only [Act.put, List.setIfInBounds_toArray, List.set_cons_zero, List.set_cons_succ]
    rfl
  refine pure_ (i := 17) (N := some 59) (v := (.pointer (some ⟨b5, 1, none⟩))) (a' := ?a32) #[true, true, true, true, true, true, true, true, true, true, true, true, true, true, true, true, false, true, false, false, false, false, false, false, false, false, false, false, false, false, false] rfl rfl (by kernel_rfl) (fun _ _ _ h => h) (Or.inl ⟨by rfl, fun w' => fldB1_run (.tmp 5) rfl b5 rfl⟩) ?ha32 ?hh32
  case ha32 =>
    simp only [Act.put, List.setIfInBounds_toArray, List.set_cons_zero, List.set_cons_succ]
    rfl
  refine take_ (i := 18) (N := some 60) (v := (.agg (nums .u8 p.2).toArray)) (a' := ?a33) #[true, true, true, true, true, true, true, true, true, true, true, true, true, true, true, true, false, true, true, false, false, false, false, false, false, false, false, false, false, false, false] rfl rfl (by kernel_rfl) (fun _ _ _ h => h) (Or.inl ⟨by rfl, fun w' s0 => loadD_run (.tmp 59) rfl _ rfl _ HPD.out.1 (boxP_dig s0.2.1)⟩) hHeld ?ha33 ?hh33
  case ha33 =>
    simp only [Act.put, List.setIfInBounds_toArray, List.set_cons_zero, List.set_cons_succ]
    rfl
  refine take_ (i := 19) (N := some 61) (v := (.agg (nums .u8 sv).toArray)) (a' := ?a34) #[true, true, true, true, true, true, true, true, true, true, true, true, true, true, true, true, false, true, true, true, false, false, false, false, false, false, false, false, false, false, false] rfl rfl (by kernel_rfl) (fun _ _ _ h => h) (Or.inl ⟨by rfl, fun w' s0 => loadB_run (.tmp 10) rfl b10 rfl _ HSI.out.1 s0.2.2⟩) hHeld ?ha34 ?hh34
  case ha34 =>
    simp only [Act.put, List.setIfInBounds_toArray, List.set_cons_zero, List.set_cons_succ]
    rfl
  refine one_ (i := 16) (N := some 58) #[true, true, true, true, true, true, true, true, true, true, true, true, true, true, true, true, true, true, true, true, false, false, false, false, false, false, false, false, false, false, false] rfl rfl (by kernel_rfl) (by decide) (fun K hK => ?_)
  refine goes_ Tryd.func9 (by kernel_rfl) rfl #[.int .i64 p.1] (by rfl) rfl rfl (by simp only [List.map_toArray, List.map_cons, List.map_nil]; rfl) ?_
  refine (name_calls p.1 _).mono ?_
  rintro e wn103 ⟨rfl, ln103⟩
  refine ⟨_, rfl, hK.out _ _ ⟨hHeld.1.low ln103, blk_below hHeld.2.1 ln103, blk_below hHeld.2.2 ln103⟩ (fun hHeld => ?_)⟩
  clear hK K ln103
  refine norm_ (a' := ?a35) ?ha35 ?hh35
  case ha35 =>
    show Act.put _ (some 58) _ = _
    simp only [Act.put, List.setIfInBounds_toArray, List.set_cons_zero, List.set_cons_succ]
    rfl
  refine one_ (i := 20) (N := some 62) #[true, true, true, true, true, true, true, true, true, true, true, true, true, true, true, true, true, true, true, true, true, false, false, false, false, false, false, false, false, false, false] rfl rfl (by kernel_rfl) (by decide) (fun K hK => ?_)
  refine goes_ Tryd.func10 (by kernel_rfl) rfl #[.pointer (some ⟨z.b, 0, none⟩), .string (nm p.1), .agg (nums .u8 p.2).toArray, .agg (nums .u8 sv).toArray] (by rfl) rfl rfl (by simp only [List.map_toArray, List.map_cons, List.map_nil]; rfl) ?_
  refine (show Calls Tryd.prog 10 #[.pointer (some ⟨z.b, 0, none⟩), .string (nm p.1), .agg (nums .u8 p.2).toArray, .agg (nums .u8 sv).toArray] _ _ from hHeld.1.kz.verifyB rfl p.1 p.2 sv HPD.out HSI.out).mono ?_
  rintro e wv104 ⟨rfl, lv104⟩
  rw [show decide (sf oth [] (nm p.1, p.2) = some sv) = false from (by rw [sf_nil]; exact decide_eq_false (fun h => by cases h))]
  refine ⟨_, rfl, hK.out _ _ ⟨hHeld.1.low lv104, blk_below hHeld.2.1 lv104, blk_below hHeld.2.2 lv104⟩ (fun hHeld => ?_)⟩
  clear hK K lv104
  refine norm_ (a' := ?a36) ?ha36 ?hh36
  case ha36 =>
    show Act.put _ (some 62) _ = _
    simp only [Act.put, List.setIfInBounds_toArray, List.set_cons_zero, List.set_cons_succ]
    rfl
  refine pure_ (i := 21) (N := some 63) (v := ?v37) (a' := ?a37) #[true, true, true, true, true, true, true, true, true, true, true, true, true, true, true, true, true, true, true, true, true, true, false, false, false, false, false, false, false, false, false] rfl rfl (by kernel_rfl) (fun _ _ _ h => h) (Or.inl ⟨by rfl, ?hy37⟩) ?ha37 ?hh37
  case hy37 =>
    intro w'
    go_simp
    with_reducible rfl
  case ha37 =>
    simp only [Act.put, List.setIfInBounds_toArray, List.set_cons_zero, List.set_cons_succ]
    rfl
  refine pure_ (i := 22) (N := some 64) (v := ?v38) (a' := ?a38) #[true, true, true, true, true, true, true, true, true, true, true, true, true, true, true, true, true, true, true, true, true, true, true, false, false, false, false, false, false, false, false] rfl rfl (by kernel_rfl) (fun _ _ _ h => h) (Or.inl ⟨by rfl, ?hy38⟩) ?ha38 ?hh38
  case hy38 =>
    intro w'
    go_simp
    with_reducible rfl
  case ha38 =>
    simp only [Act.put, List.setIfInBounds_toArray, List.set_cons_zero, List.set_cons_succ]
    rfl
  refine pure_ (i := 23) (N := some 65) (v := ?v39) (a' := ?a39) #[true, true, true, true, true, true, true, true, true, true, true, true, true, true, true, true, true, true, true, true, true, true, true, true, false, false, false, false, false, false, false] rfl rfl (by kernel_rfl) (fun _ _ _ h => h) (Or.inl ⟨by rfl, ?hy39⟩) ?ha39 ?hh39
  case hy39 =>
    intro w'
    go_simp
    with_reducible rfl
  case ha39 =>
    simp only [Act.put, List.setIfInBounds_toArray, List.set_cons_zero, List.set_cons_succ]
    rfl
  refine pure_ (i := 24) (N := some 66) (v := (.pointer (some ⟨b5, 0, none⟩))) (a' := ?a40) #[true, true, true, true, true, true, true, true, true, true, true, true, true, true, true, true, true, true, true, true, true, true, true, true, true, false, false, false, false, false, false] rfl rfl (by kernel_rfl) (fun _ _ _ h => h) (Or.inl ⟨by rfl, fun w' => fld0_run (.tmp 5) rfl _ rfl⟩) ?ha40 ?hh40
  case ha40 =>
    simp only [Act.put, List.setIfInBounds_toArray, List.set_cons_zero, List.set_cons_succ]
    rfl
  refine take_ (i := 25) (N := some 67) (v := (.int .i64 p.1)) (a' := ?a41) #[true, true, true, true, true, true, true, true, true, true, true, true, true, true, true, true, true, true, true, true, true, true, true, true, true, true, false, false, false, false, false] rfl rfl (by kernel_rfl) (fun _ _ _ h => h) (Or.inl ⟨by rfl, fun w' s0 => loadI_run (.tmp 66) rfl _ rfl _ (arr_cell s0.2.1 0 rfl)⟩) hHeld ?ha41 ?hh41
  case ha41 =>
    simp only [Act.put, List.setIfInBounds_toArray, List.set_cons_zero, List.set_cons_succ]
    rfl
  refine one_ (i := 26) (N := some 68) #[true, true, true, true, true, true, true, true, true, true, true, true, true, true, true, true, true, true, true, true, true, true, true, true, true, true, true, false, false, false, false] rfl rfl (by kernel_rfl) (by decide) (fun K hK => ?_)
  refine goes_ Tryd.func9 (by kernel_rfl) rfl #[.int .i64 p.1] (by rfl) rfl rfl (by simp only [List.map_toArray, List.map_cons, List.map_nil]; rfl) ?_
  refine (name_calls p.1 _).mono ?_
  rintro e wn105 ⟨rfl, ln105⟩
  refine ⟨_, rfl, hK.out _ _ ⟨hHeld.1.low ln105, blk_below hHeld.2.1 ln105, blk_below hHeld.2.2 ln105⟩ (fun hHeld => ?_)⟩
  clear hK K ln105
  refine norm_ (a' := ?a42) ?ha42 ?hh42
  case ha42 =>
    show Act.put _ (some 68) _ = _
    simp only [Act.put, List.setIfInBounds_toArray, List.set_cons_zero, List.set_cons_succ]
    rfl
  refine one_ (i := 27) (N := some 69) #[true, true, true, true, true, true, true, true, true, true, true, true, true, true, true, true, true, true, true, true, true, true, true, true, true, true, true, true, false, false, false] rfl rfl (by kernel_rfl) (by decide) (fun K hK => ?_)
  refine goes_ Tryd.func17 (by kernel_rfl) rfl #[.pointer (some ⟨y.b, 0, none⟩), .string (nm p.1)] (by rfl) rfl rfl (by simp only [List.map_toArray, List.map_cons, List.map_nil]; rfl) ?_
  refine (show Calls Tryd.prog 17 #[.pointer (some ⟨y.b, 0, none⟩), .string (nm p.1)] _ _ from keys_count0 hHeld.1.ky hHeld.1.oy p.1).mono ?_
  rintro e wc106 ⟨Ac106, cc106, rfl, lc106⟩
  refine ⟨_, rfl, hK.out _ _ ⟨hHeld.1.low lc106, blk_below hHeld.2.1 lc106, blk_below hHeld.2.2 lc106⟩ (fun hHeld => ?_)⟩
  clear hK K lc106
  refine norm_ (a' := ?a43) ?ha43 ?hh43
  case ha43 =>
    show Act.put _ (some 69) _ = _
    simp only [Act.put, List.setIfInBounds_toArray, List.set_cons_zero, List.set_cons_succ]
    rfl
  refine pure_ (i := 28) (N := some 70) (v := ?v44) (a' := ?a44) #[true, true, true, true, true, true, true, true, true, true, true, true, true, true, true, true, true, true, true, true, true, true, true, true, true, true, true, true, true, false, false] rfl rfl (by kernel_rfl) (fun _ _ _ h => h) (Or.inl ⟨by rfl, ?hy44⟩) ?ha44 ?hh44
  case hy44 =>
    intro w'
    go_simp
    with_reducible rfl
  case ha44 =>
    simp only [Act.put, List.setIfInBounds_toArray, List.set_cons_zero, List.set_cons_succ]
    rfl
  refine pure_ (i := 29) (N := some 71) (v := ?v45) (a' := ?a45) #[true, true, true, true, true, true, true, true, true, true, true, true, true, true, true, true, true, true, true, true, true, true, true, true, true, true, true, true, true, true, false] rfl rfl (by kernel_rfl) (fun _ _ _ h => h) (Or.inl ⟨by rfl, ?hy45⟩) ?ha45 ?hh45
  case hy45 =>
    intro w'
    go_simp
    with_reducible rfl
  case ha45 =>
    simp only [Act.put, List.setIfInBounds_toArray, List.set_cons_zero, List.set_cons_succ]
    rfl
  refine pure_ (i := 30) (N := some 72) (v := ?v46) (a' := ?a46) #[true, true, true, true, true, true, true, true, true, true, true, true, true, true, true, true, true, true, true, true, true, true, true, true, true, true, true, true, true, true, true] rfl rfl (by kernel_rfl) (fun _ _ _ h => h) (Or.inl ⟨by rfl, ?hy46⟩) ?ha46 ?hh46
  case hy46 =>
    intro w'
    go_simp
    with_reducible rfl
  case ha46 =>
    simp only [Act.put, List.setIfInBounds_toArray, List.set_cons_zero, List.set_cons_succ]
    rfl
  refine done_ (by kernel_rfl) ?_
  have keys_r7 := Aside0.mk hHeld.1
  have b5_r7 := Aside0.mk hHeld.2.1
  have b10_r7 := Aside0.mk hHeld.2.2
  clear hHeld Tr6 b5r6s b10r6
  go_wp2_with (fail)
  refine start_ (n := 13) (S := fun w' => w'.heap[b5]? = some (.cells (.int .i64 p.1 :: nums .u8 p.2).toArray 35 (0, 0))) (ds := []) #[false, false, false, false, false, false, false, false, false, false, false, false, false] (by kernel_rfl) rfl rfl (blk_drew b5_r7.out) (fun hHeld => ?_)
  refine pure_ (i := 0) (N := some 74) (v := ?v47) (a' := ?a47) #[true, false, false, false, false, false, false, false, false, false, false, false, false] rfl rfl (by kernel_rfl) (fun _ _ _ h => h) (Or.inl ⟨by rfl, ?hy47⟩) ?ha47 ?hh47
  case hy47 =>
    intro w'
    go_simp
    with_reducible rfl
  case ha47 =>
    simp only [Act.put, List.setIfInBounds_toArray, List.set_cons_zero, List.set_cons_succ]
    rfl
  refine pure_ (i := 1) (N := some 75) (v := (.pointer (some ⟨b5, 0, none⟩))) (a' := ?a48) #[true, true, false, false, false, false, false, false, false, false, false, false, false] rfl rfl (by kernel_rfl) (fun _ _ _ h => h) (Or.inl ⟨by rfl, fun w' => fld0_run (.tmp 5) rfl _ rfl⟩) ?ha48 ?hh48
  case ha48 =>
    simp only [Act.put, List.setIfInBounds_toArray, List.set_cons_zero, List.set_cons_succ]
    rfl
  refine take_ (i := 2) (N := some 76) (v := (.int .i64 p.1)) (a' := ?a49) #[true, true, true, false, false, false, false, false, false, false, false, false, false] rfl rfl (by kernel_rfl) (fun _ _ _ h => h) (Or.inl ⟨by rfl, fun w' s0 => loadI_run (.tmp 75) rfl _ rfl _ (arr_cell s0 0 rfl)⟩) hHeld ?ha49 ?hh49
  case ha49 =>
    simp only [Act.put, List.setIfInBounds_toArray, List.set_cons_zero, List.set_cons_succ]
    rfl
  refine pure_ (i := 4) (N := some 78) (v := (.pointer (some ⟨b5, 1, none⟩))) (a' := ?a50) #[true, true, true, false, true, false, false, false, false, false, false, false, false] rfl rfl (by kernel_rfl) (fun _ _ _ h => h) (Or.inl ⟨by rfl, fun w' => fldB1_run (.tmp 5) rfl b5 rfl⟩) ?ha50 ?hh50
  case ha50 =>
    simp only [Act.put, List.setIfInBounds_toArray, List.set_cons_zero, List.set_cons_succ]
    rfl
  refine take_ (i := 5) (N := some 79) (v := (.agg (nums .u8 p.2).toArray)) (a' := ?a51) #[true, true, true, false, true, true, false, false, false, false, false, false, false] rfl rfl (by kernel_rfl) (fun _ _ _ h => h) (Or.inl ⟨by rfl, fun w' s0 => loadD_run (.tmp 78) rfl _ rfl _ HPD.out.1 (boxP_dig s0)⟩) hHeld ?ha51 ?hh51
  case ha51 =>
    simp only [Act.put, List.setIfInBounds_toArray, List.set_cons_zero, List.set_cons_succ]
    rfl
  have keys_r9 := Aside0.mk (keys_r7.out.drew)
  have b5_r9 := Aside0.mk (blk_drew b5_r7.out)
  have b10_r9 := Aside0.mk (blk_drew b10_r7.out)
  clear hHeld
  refine join_ 2 #[true, true, true, true, true, true, true, true, true, true, true, false, false] (fun b12 : Nat => [(77, .string (nm p.1)), (80, .tuple #[.agg (nums .u8 sv).toArray, .int .i64 0]), (12, .pointer (some ⟨b12, 0, none⟩)), (73, .tuple #[.agg (nums .u8 sv).toArray, .int .i64 0]), (81, .agg (nums .u8 sv).toArray), (82, .int .i64 0)]) (fun b12 w' => Three nn x1 (y.signedWith (nm p.1) p.2 sv) z w w' sec oth [(p.1, p.2)] ([] ++ [(p.1, p.2)]) [] ∧ w'.heap[b5]? = some (.cells (.int .i64 p.1 :: nums .u8 p.2).toArray 35 (0, 0)) ∧ w'.heap[b10]? = some (.cells (nums .u8 sv).toArray 27 (0, 0)) ∧ w'.heap[b12]? = some (.cells (nums .u8 zeroD).toArray 27 (0, 0)) ∧ nn ≤ b12 ∧ b10 < b12) ?hcontr9 (fun hJ => ?hwaysr9)
  case hwaysr9 =>
    refine two_ (i := 3) (j := 10) (Ni := some 77) (Nj := some 12) #[true, true, true, true, true, true, false, false, false, false, false, false, false] #[true, true, true, false, true, true, false, false, false, false, true, false, false] rfl rfl rfl rfl (by kernel_rfl) (by decide) (by decide) (fun K hK => ?way1r9) (fun K hK => ?way2r9)
    case way1r9 =>
      refine goes_ Tryd.func9 (by kernel_rfl) rfl #[.int .i64 p.1] (by rfl) rfl rfl (by simp only [List.map_toArray, List.map_cons, List.map_nil]; rfl) ?_
      refine (name_calls p.1 _).mono ?_
      rintro e wnr91 ⟨rfl, lnr91⟩
      refine ⟨_, rfl, hK.out _ _ (blk_below b5_r9.out lnr91) (fun _ => ?_)⟩
      clear hK K
      refine two_ (i := 6) (j := 10) (Ni := some 80) (Nj := some 12) #[true, true, true, true, true, true, true, false, false, false, false, false, false] #[true, true, true, true, true, true, false, false, false, false, true, false, false] rfl rfl rfl rfl (by kernel_rfl) (by decide) (by decide) (fun K hK => ?way3r9) (fun K hK => ?way4r9)
      case way3r9 =>
        refine goes_ Tryd.func11 (by kernel_rfl) rfl #[.pointer (some ⟨y.b, 0, none⟩), .string (nm p.1), .agg (nums .u8 p.2).toArray] (by rfl) rfl rfl (by simp only [List.map_toArray, List.map_cons, List.map_nil]; rfl) ?_
        refine ((keys_r9.out.low lnr91).signY rfl HF.out HL.out p.1 p.2 sv HSE.out HPD.out (by decide)).mono ?_
        rintro e wsr92 ⟨rfl, ksr92, hsr92⟩
        refine ⟨_, rfl, hK.out _ _ (keep_blk ksr92 (keys_r9.out.low lnr91).ky.at_.signed (blk_below b5_r9.out lnr91)) (fun _ => ?_)⟩
        clear hK K
        refine pure_ (i := 7) (N := some 73) (v := ?v52) (a' := ?a52) #[true, true, true, true, true, true, true, true, false, false, false, false, false] rfl rfl (by kernel_rfl) (fun _ _ _ h => h) (Or.inl ⟨by rfl, ?hy52⟩) ?ha52 ?hh52
        case hy52 =>
          intro w'
          go_simp
          with_reducible rfl
        case ha52 =>
          simp only [Act.put, List.setIfInBounds_toArray, List.set_cons_zero, List.set_cons_succ]
          rfl
        refine pure_ (i := 8) (N := some 81) (v := ?v53) (a' := ?a53) #[true, true, true, true, true, true, true, true, true, false, false, false, false] rfl rfl (by kernel_rfl) (fun _ _ _ h => h) (Or.inl ⟨by rfl, ?hy53⟩) ?ha53 ?hh53
        case hy53 =>
          intro w'
          go_simp
          with_reducible rfl
        case ha53 =>
          simp only [Act.put, List.setIfInBounds_toArray, List.set_cons_zero, List.set_cons_succ]
          rfl
        refine pure_ (i := 9) (N := some 82) (v := ?v54) (a' := ?a54) #[true, true, true, true, true, true, true, true, true, true, false, false, false] rfl rfl (by kernel_rfl) (fun _ _ _ h => h) (Or.inl ⟨by rfl, ?hy54⟩) ?ha54 ?hh54
        case hy54 =>
          intro w'
          go_simp
          with_reducible rfl
        case ha54 =>
          simp only [Act.put, List.setIfInBounds_toArray, List.set_cons_zero, List.set_cons_succ]
          rfl
        refine one_ (i := 10) (N := some 12) #[true, true, true, true, true, true, true, true, true, true, true, false, false] rfl rfl (by kernel_rfl) (by decide) (fun K hK => ?_)
        refine box_step (by rfl) (N := 12) rfl (cs := (nums .u8 zeroD).toArray) (t := 27) (by first | (go_simp; done) | (go_simp; rfl)) ?_
        intro b12 b12e war93 b12b lar93
        refine hK.out _ _ (blk_below (keep_blk ksr92 (keys_r9.out.low lnr91).ky.at_.signed (blk_below b5_r9.out lnr91)) lar93) (fun _ => ?_)
        clear hK K
        have h := hJ b12 war93 ⟨(hsr92.low lar93), (blk_below (keep_blk ksr92 (keys_r9.out.low lnr91).ky.at_.signed (blk_below b5_r9.out lnr91)) lar93), (blk_below (keep_blk ksr92 (keys_r9.out.low lnr91).ky.at_.signed (blk_below b10_r9.out lnr91)) lar93), b12b, by have z1 := lnr91.size; have z2 := ksr92.1; have z3 := lar93.size; have z0 := blk_lt b10_r9.out; have z00 := HNb10.out; omega⟩
        simp only [putAll, Act.put, List.setIfInBounds_toArray, List.set_cons_zero, List.set_cons_succ] at h ⊢
        exact h
      case way4r9 =>
        refine box_step (by rfl) (N := 12) rfl (cs := (nums .u8 zeroD).toArray) (t := 27) (by first | (go_simp; done) | (go_simp; rfl)) ?_
        intro b12 b12e war94 b12b lar94
        refine hK.out _ _ (blk_below (blk_below b5_r9.out lnr91) lar94) (fun _ => ?_)
        clear hK K
        refine one_ (i := 6) (N := some 80) #[true, true, true, true, true, true, true, false, false, false, true, false, false] rfl rfl (by kernel_rfl) (by decide) (fun K hK => ?_)
        refine goes_ Tryd.func11 (by kernel_rfl) rfl #[.pointer (some ⟨y.b, 0, none⟩), .string (nm p.1), .agg (nums .u8 p.2).toArray] (by rfl) rfl rfl (by simp only [List.map_toArray, List.map_cons, List.map_nil]; rfl) ?_
        refine (((keys_r9.out.low lnr91).low lar94).signY rfl HF.out HL.out p.1 p.2 sv HSE.out HPD.out (by decide)).mono ?_
        rintro e wsr95 ⟨rfl, ksr95, hsr95⟩
        refine ⟨_, rfl, hK.out _ _ (keep_blk ksr95 ((keys_r9.out.low lnr91).low lar94).ky.at_.signed (blk_below (blk_below b5_r9.out lnr91) lar94)) (fun _ => ?_)⟩
        clear hK K
        refine pure_ (i := 7) (N := some 73) (v := ?v55) (a' := ?a55) #[true, true, true, true, true, true, true, true, false, false, true, false, false] rfl rfl (by kernel_rfl) (fun _ _ _ h => h) (Or.inl ⟨by rfl, ?hy55⟩) ?ha55 ?hh55
        case hy55 =>
          intro w'
          go_simp
          with_reducible rfl
        case ha55 =>
          simp only [Act.put, List.setIfInBounds_toArray, List.set_cons_zero, List.set_cons_succ]
          rfl
        refine pure_ (i := 8) (N := some 81) (v := ?v56) (a' := ?a56) #[true, true, true, true, true, true, true, true, true, false, true, false, false] rfl rfl (by kernel_rfl) (fun _ _ _ h => h) (Or.inl ⟨by rfl, ?hy56⟩) ?ha56 ?hh56
        case hy56 =>
          intro w'
          go_simp
          with_reducible rfl
        case ha56 =>
          simp only [Act.put, List.setIfInBounds_toArray, List.set_cons_zero, List.set_cons_succ]
          rfl
        refine pure_ (i := 9) (N := some 82) (v := ?v57) (a' := ?a57) #[true, true, true, true, true, true, true, true, true, true, true, false, false] rfl rfl (by kernel_rfl) (fun _ _ _ h => h) (Or.inl ⟨by rfl, ?hy57⟩) ?ha57 ?hh57
        case hy57 =>
          intro w'
          go_simp
          with_reducible rfl
        case ha57 =>
          simp only [Act.put, List.setIfInBounds_toArray, List.set_cons_zero, List.set_cons_succ]
          rfl
        have h := hJ b12 wsr95 ⟨hsr95, (keep_blk ksr95 ((keys_r9.out.low lnr91).low lar94).ky.at_.signed (blk_below (blk_below b5_r9.out lnr91) lar94)), (keep_blk ksr95 ((keys_r9.out.low lnr91).low lar94).ky.at_.signed (blk_below (blk_below b10_r9.out lnr91) lar94)), (keep_blk ksr95 ((keys_r9.out.low lnr91).low lar94).ky.at_.signed b12b), by have z1 := lnr91.size; have z0 := blk_lt b10_r9.out; have z00 := HNb10.out; omega⟩
        simp only [putAll, Act.put, List.setIfInBounds_toArray, List.set_cons_zero, List.set_cons_succ] at h ⊢
        exact h
    case way2r9 =>
      refine box_step (by rfl) (N := 12) rfl (cs := (nums .u8 zeroD).toArray) (t := 27) (by first | (go_simp; done) | (go_simp; rfl)) ?_
      intro b12 b12e war96 b12b lar96
      refine hK.out _ _ (blk_below b5_r9.out lar96) (fun _ => ?_)
      clear hK K
      refine one_ (i := 3) (N := some 77) #[true, true, true, true, true, true, false, false, false, false, true, false, false] rfl rfl (by kernel_rfl) (by decide) (fun K hK => ?_)
      refine goes_ Tryd.func9 (by kernel_rfl) rfl #[.int .i64 p.1] (by rfl) rfl rfl (by simp only [List.map_toArray, List.map_cons, List.map_nil]; rfl) ?_
      refine (name_calls p.1 _).mono ?_
      rintro e wnr97 ⟨rfl, lnr97⟩
      refine ⟨_, rfl, hK.out _ _ (blk_below (blk_below b5_r9.out lar96) lnr97) (fun _ => ?_)⟩
      clear hK K
      refine one_ (i := 6) (N := some 80) #[true, true, true, true, true, true, true, false, false, false, true, false, false] rfl rfl (by kernel_rfl) (by decide) (fun K hK => ?_)
      refine goes_ Tryd.func11 (by kernel_rfl) rfl #[.pointer (some ⟨y.b, 0, none⟩), .string (nm p.1), .agg (nums .u8 p.2).toArray] (by rfl) rfl rfl (by simp only [List.map_toArray, List.map_cons, List.map_nil]; rfl) ?_
      refine (((keys_r9.out.low lar96).low lnr97).signY rfl HF.out HL.out p.1 p.2 sv HSE.out HPD.out (by decide)).mono ?_
      rintro e wsr98 ⟨rfl, ksr98, hsr98⟩
      refine ⟨_, rfl, hK.out _ _ (keep_blk ksr98 ((keys_r9.out.low lar96).low lnr97).ky.at_.signed (blk_below (blk_below b5_r9.out lar96) lnr97)) (fun _ => ?_)⟩
      clear hK K
      refine pure_ (i := 7) (N := some 73) (v := ?v58) (a' := ?a58) #[true, true, true, true, true, true, true, true, false, false, true, false, false] rfl rfl (by kernel_rfl) (fun _ _ _ h => h) (Or.inl ⟨by rfl, ?hy58⟩) ?ha58 ?hh58
      case hy58 =>
        intro w'
        go_simp
        with_reducible rfl
      case ha58 =>
        simp only [Act.put, List.setIfInBounds_toArray, List.set_cons_zero, List.set_cons_succ]
        rfl
      refine pure_ (i := 8) (N := some 81) (v := ?v59) (a' := ?a59) #[true, true, true, true, true, true, true, true, true, false, true, false, false] rfl rfl (by kernel_rfl) (fun _ _ _ h => h) (Or.inl ⟨by rfl, ?hy59⟩) ?ha59 ?hh59
      case hy59 =>
        intro w'
        go_simp
        with_reducible rfl
      case ha59 =>
        simp only [Act.put, List.setIfInBounds_toArray, List.set_cons_zero, List.set_cons_succ]
        rfl
      refine pure_ (i := 9) (N := some 82) (v := ?v60) (a' := ?a60) #[true, true, true, true, true, true, true, true, true, true, true, false, false] rfl rfl (by kernel_rfl) (fun _ _ _ h => h) (Or.inl ⟨by rfl, ?hy60⟩) ?ha60 ?hh60
      case hy60 =>
        intro w'
        go_simp
        with_reducible rfl
      case ha60 =>
        simp only [Act.put, List.setIfInBounds_toArray, List.set_cons_zero, List.set_cons_succ]
        rfl
      have h := hJ b12 wsr98 ⟨hsr98, (keep_blk ksr98 ((keys_r9.out.low lar96).low lnr97).ky.at_.signed (blk_below (blk_below b5_r9.out lar96) lnr97)), (keep_blk ksr98 ((keys_r9.out.low lar96).low lnr97).ky.at_.signed (blk_below (blk_below b10_r9.out lar96) lnr97)), (keep_blk ksr98 ((keys_r9.out.low lar96).low lnr97).ky.at_.signed (blk_below b12b lnr97)), by have z0 := blk_lt b10_r9.out; have z00 := HNb10.out; omega⟩
      simp only [putAll, Act.put, List.setIfInBounds_toArray, List.set_cons_zero, List.set_cons_succ] at h ⊢
      exact h
  intro b12 wjr9 hFr9
  obtain ⟨hkeysr9, hb5r9, hb10r9, hbzr9, hbsr9⟩ := hFr9
  clear keys_r9 b5_r9 b10_r9
  simp only [putAll, Act.put, List.setIfInBounds_toArray, List.set_cons_zero, List.set_cons_succ]
  refine one_ (i := 11) (N := none) #[true, true, true, true, true, true, true, true, true, true, true, true, false] rfl rfl (by kernel_rfl) (by decide) (fun K hK => ?_)
  rw [if_pos (by rfl)]
  refine wp_store_row 27 (.tmp 12) (.tmp 81) rfl b12 (nums .u8 sv).toArray rfl rfl 27 _ hbzr9 HDs.out.1 (by rw [HDs.out.2.1]; rfl) HDs.out.2.2 ?_
  have HNb12 := Aside0.mk hbsr9
  have Tr9 := Aside0.mk (hkeysr9.row (b := b12) (by have := HNb12.out; omega) (nums .u8 sv).toArray)
  have b12r9 := Aside0.mk (setRow_heap _ b12 _ (nums .u8 sv).toArray _ _ hbzr9)
  have b5r9s := Aside0.mk (blk_row (b := b12) hb5r9 (by have := HNb12.out; have := HN5.out; omega) (nums .u8 sv).toArray)
  have b10r9s := Aside0.mk (blk_row (b := b12) hb10r9 (by have := HNb12.out; have := HN5.out; omega) (nums .u8 sv).toArray)
  obtain ⟨y1, hxr9⟩ : ∃ u, (y.signedWith (nm p.1) p.2 sv) = u := ⟨_, rfl⟩
  have HY1 := Aside0.mk (show y1.b = y.b by rw [← hxr9]; rfl)
  rw [hxr9, List.nil_append] at Tr9
  clear hkeysr9 hb5r9 hb10r9 hbzr9 hbsr9 hxr9
  generalize wjr9.setRow b12 (nums .u8 sv).toArray = wr9 at Tr9 b12r9 b5r9s b10r9s ⊢
  refine hK.out _ _ (b5r9s.out) (fun _ => ?_)
  clear hK K
  refine norm_ (a' := ?anr9) ?hnr9 ?hmr9
  case hnr9 =>
    show Act.put _ none _ = _
    simp only [Act.put]
    rfl
  refine pure_ (i := 12) (N := some 13) (v := ?v61) (a' := ?a61) #[true, true, true, true, true, true, true, true, true, true, true, true, true] rfl rfl (by kernel_rfl) (fun _ _ _ h => h) (Or.inl ⟨by rfl, ?hy61⟩) ?ha61 ?hh61
  case hy61 =>
    intro w'
    go_simp
    with_reducible rfl
  case ha61 =>
    simp only [Act.put, List.setIfInBounds_toArray, List.set_cons_zero, List.set_cons_succ]
    rfl
  refine done_ (by kernel_rfl) ?_
  go_wp2_with (fail)
  refine start_ (n := 13) (S := fun w' => w'.heap[b5]? = some (.cells (.int .i64 p.1 :: nums .u8 p.2).toArray 35 (0, 0))) (ds := []) #[false, false, false, false, false, false, false, false, false, false, false, false, false] (by kernel_rfl) rfl rfl (blk_drew b5r9s.out) (fun hHeld => ?_)
  refine pure_ (i := 0) (N := some 84) (v := ?v62) (a' := ?a62) #[true, false, false, false, false, false, false, false, false, false, false, false, false] rfl rfl (by kernel_rfl) (fun _ _ _ h => h) (Or.inl ⟨by rfl, ?hy62⟩) ?ha62 ?hh62
  case hy62 =>
    intro w'
    go_simp
    with_reducible rfl
  case ha62 =>
    simp only [Act.put, List.setIfInBounds_toArray, List.set_cons_zero, List.set_cons_succ]
    rfl
  refine pure_ (i := 1) (N := some 85) (v := (.pointer (some ⟨b5, 0, none⟩))) (a' := ?a63) #[true, true, false, false, false, false, false, false, false, false, false, false, false] rfl rfl (by kernel_rfl) (fun _ _ _ h => h) (Or.inl ⟨by rfl, fun w' => fld0_run (.tmp 5) rfl _ rfl⟩) ?ha63 ?hh63
  case ha63 =>
    simp only [Act.put, List.setIfInBounds_toArray, List.set_cons_zero, List.set_cons_succ]
    rfl
  refine take_ (i := 2) (N := some 86) (v := (.int .i64 p.1)) (a' := ?a64) #[true, true, true, false, false, false, false, false, false, false, false, false, false] rfl rfl (by kernel_rfl) (fun _ _ _ h => h) (Or.inl ⟨by rfl, fun w' s0 => loadI_run (.tmp 85) rfl _ rfl _ (arr_cell s0 0 rfl)⟩) hHeld ?ha64 ?hh64
  case ha64 =>
    simp only [Act.put, List.setIfInBounds_toArray, List.set_cons_zero, List.set_cons_succ]
    rfl
  refine pure_ (i := 4) (N := some 88) (v := (.pointer (some ⟨b5, 1, none⟩))) (a' := ?a65) #[true, true, true, false, true, false, false, false, false, false, false, false, false] rfl rfl (by kernel_rfl) (fun _ _ _ h => h) (Or.inl ⟨by rfl, fun w' => fldB1_run (.tmp 5) rfl b5 rfl⟩) ?ha65 ?hh65
  case ha65 =>
    simp only [Act.put, List.setIfInBounds_toArray, List.set_cons_zero, List.set_cons_succ]
    rfl
  refine take_ (i := 5) (N := some 89) (v := (.agg (nums .u8 p.2).toArray)) (a' := ?a66) #[true, true, true, false, true, true, false, false, false, false, false, false, false] rfl rfl (by kernel_rfl) (fun _ _ _ h => h) (Or.inl ⟨by rfl, fun w' s0 => loadD_run (.tmp 88) rfl _ rfl _ HPD.out.1 (boxP_dig s0)⟩) hHeld ?ha66 ?hh66
  case ha66 =>
    simp only [Act.put, List.setIfInBounds_toArray, List.set_cons_zero, List.set_cons_succ]
    rfl
  have keys_r10 := Aside0.mk (Tr9.out.drew)
  have b5_r10 := Aside0.mk (blk_drew b5r9s.out)
  have b10_r10 := Aside0.mk (blk_drew b10r9s.out)
  have b12_r10 := Aside0.mk (blk_drew b12r9.out)
  clear hHeld
  refine join_ 2 #[true, true, true, true, true, true, true, true, true, true, true, false, false] (fun b14 : Nat => [(87, .string (nm p.1)), (90, .tuple #[.agg (nums .u8 uv).toArray, .int .i64 0]), (14, .pointer (some ⟨b14, 0, none⟩)), (83, .tuple #[.agg (nums .u8 uv).toArray, .int .i64 0]), (91, .agg (nums .u8 uv).toArray), (92, .int .i64 0)]) (fun b14 w' => Three nn x1 y1 (z.signedWith (nm p.1) p.2 uv) w w' sec oth [(p.1, p.2)] [(p.1, p.2)] ([] ++ [(p.1, p.2)]) ∧ w'.heap[b5]? = some (.cells (.int .i64 p.1 :: nums .u8 p.2).toArray 35 (0, 0)) ∧ w'.heap[b10]? = some (.cells (nums .u8 sv).toArray 27 (0, 0)) ∧ w'.heap[b12]? = some (.cells (nums .u8 sv).toArray 27 (0, 0)) ∧ w'.heap[b14]? = some (.cells (nums .u8 zeroD).toArray 27 (0, 0)) ∧ nn ≤ b14 ∧ b10 < b14 ∧ b12 < b14) ?hcontr10 (fun hJ => ?hwaysr10)
  case hwaysr10 =>
    refine two_ (i := 3) (j := 10) (Ni := some 87) (Nj := some 14) #[true, true, true, true, true, true, false, false, false, false, false, false, false] #[true, true, true, false, true, true, false, false, false, false, true, false, false] rfl rfl rfl rfl (by kernel_rfl) (by decide) (by decide) (fun K hK => ?way1r10) (fun K hK => ?way2r10)
    case way1r10 =>
      refine goes_ Tryd.func9 (by kernel_rfl) rfl #[.int .i64 p.1] (by rfl) rfl rfl (by simp only [List.map_toArray, List.map_cons, List.map_nil]; rfl) ?_
      refine (name_calls p.1 _).mono ?_
      rintro e wnr101 ⟨rfl, lnr101⟩
      refine ⟨_, rfl, hK.out _ _ (blk_below b5_r10.out lnr101) (fun _ => ?_)⟩
      clear hK K
      refine two_ (i := 6) (j := 10) (Ni := some 90) (Nj := some 14) #[true, true, true, true, true, true, true, false, false, false, false, false, false] #[true, true, true, true, true, true, false, false, false, false, true, false, false] rfl rfl rfl rfl (by kernel_rfl) (by decide) (by decide) (fun K hK => ?way3r10) (fun K hK => ?way4r10)
      case way3r10 =>
        refine goes_ Tryd.func11 (by kernel_rfl) rfl #[.pointer (some ⟨z.b, 0, none⟩), .string (nm p.1), .agg (nums .u8 p.2).toArray] (by rfl) rfl rfl (by simp only [List.map_toArray, List.map_cons, List.map_nil]; rfl) ?_
        refine ((keys_r10.out.low lnr101).signZ rfl HF.out HL.out p.1 p.2 uv HUE.out HPD.out (by decide)).mono ?_
        rintro e wsr102 ⟨rfl, ksr102, hsr102⟩
        refine ⟨_, rfl, hK.out _ _ (keep_blk ksr102 (keys_r10.out.low lnr101).kz.at_.signed (blk_below b5_r10.out lnr101)) (fun _ => ?_)⟩
        clear hK K
        refine pure_ (i := 7) (N := some 83) (v := ?v67) (a' := ?a67) #[true, true, true, true, true, true, true, true, false, false, false, false, false] rfl rfl (by kernel_rfl) (fun _ _ _ h => h) (Or.inl ⟨by rfl, ?hy67⟩) ?ha67 ?hh67
        case hy67 =>
          intro w'
          go_simp
          with_reducible rfl
        case ha67 =>
          simp only [Act.put, List.setIfInBounds_toArray, List.set_cons_zero, List.set_cons_succ]
          rfl
        refine pure_ (i := 8) (N := some 91) (v := ?v68) (a' := ?a68) #[true, true, true, true, true, true, true, true, true, false, false, false, false] rfl rfl (by kernel_rfl) (fun _ _ _ h => h) (Or.inl ⟨by rfl, ?hy68⟩) ?ha68 ?hh68
        case hy68 =>
          intro w'
          go_simp
          with_reducible rfl
        case ha68 =>
          simp only [Act.put, List.setIfInBounds_toArray, List.set_cons_zero, List.set_cons_succ]
          rfl
        refine pure_ (i := 9) (N := some 92) (v := ?v69) (a' := ?a69) #[true, true, true, true, true, true, true, true, true, true, false, false, false] rfl rfl (by kernel_rfl) (fun _ _ _ h => h) (Or.inl ⟨by rfl, ?hy69⟩) ?ha69 ?hh69
        case hy69 =>
          intro w'
          go_simp
          with_reducible rfl
        case ha69 =>
          simp only [Act.put, List.setIfInBounds_toArray, List.set_cons_zero, List.set_cons_succ]
          rfl
        refine one_ (i := 10) (N := some 14) #[true, true, true, true, true, true, true, true, true, true, true, false, false] rfl rfl (by kernel_rfl) (by decide) (fun K hK => ?_)
        refine box_step (by rfl) (N := 14) rfl (cs := (nums .u8 zeroD).toArray) (t := 27) (by first | (go_simp; done) | (go_simp; rfl)) ?_
        intro b14 b14e war103 b14b lar103
        refine hK.out _ _ (blk_below (keep_blk ksr102 (keys_r10.out.low lnr101).kz.at_.signed (blk_below b5_r10.out lnr101)) lar103) (fun _ => ?_)
        clear hK K
        have h := hJ b14 war103 ⟨(hsr102.low lar103), (blk_below (keep_blk ksr102 (keys_r10.out.low lnr101).kz.at_.signed (blk_below b5_r10.out lnr101)) lar103), (blk_below (keep_blk ksr102 (keys_r10.out.low lnr101).kz.at_.signed (blk_below b10_r10.out lnr101)) lar103), (blk_below (keep_blk ksr102 (keys_r10.out.low lnr101).kz.at_.signed (blk_below b12_r10.out lnr101)) lar103), b14b, by have z1 := lnr101.size; have z2 := ksr102.1; have z3 := lar103.size; have z0 := blk_lt b12_r10.out; have z00 := HNb12.out; have z01 := HNb10.out; omega⟩
        simp only [putAll, Act.put, List.setIfInBounds_toArray, List.set_cons_zero, List.set_cons_succ] at h ⊢
        exact h
      case way4r10 =>
        refine box_step (by rfl) (N := 14) rfl (cs := (nums .u8 zeroD).toArray) (t := 27) (by first | (go_simp; done) | (go_simp; rfl)) ?_
        intro b14 b14e war104 b14b lar104
        refine hK.out _ _ (blk_below (blk_below b5_r10.out lnr101) lar104) (fun _ => ?_)
        clear hK K
        refine one_ (i := 6) (N := some 90) #[true, true, true, true, true, true, true, false, false, false, true, false, false] rfl rfl (by kernel_rfl) (by decide) (fun K hK => ?_)
        refine goes_ Tryd.func11 (by kernel_rfl) rfl #[.pointer (some ⟨z.b, 0, none⟩), .string (nm p.1), .agg (nums .u8 p.2).toArray] (by rfl) rfl rfl (by simp only [List.map_toArray, List.map_cons, List.map_nil]; rfl) ?_
        refine (((keys_r10.out.low lnr101).low lar104).signZ rfl HF.out HL.out p.1 p.2 uv HUE.out HPD.out (by decide)).mono ?_
        rintro e wsr105 ⟨rfl, ksr105, hsr105⟩
        refine ⟨_, rfl, hK.out _ _ (keep_blk ksr105 ((keys_r10.out.low lnr101).low lar104).kz.at_.signed (blk_below (blk_below b5_r10.out lnr101) lar104)) (fun _ => ?_)⟩
        clear hK K
        refine pure_ (i := 7) (N := some 83) (v := ?v70) (a' := ?a70) #[true, true, true, true, true, true, true, true, false, false, true, false, false] rfl rfl (by kernel_rfl) (fun _ _ _ h => h) (Or.inl ⟨by rfl, ?hy70⟩) ?ha70 ?hh70
        case hy70 =>
          intro w'
          go_simp
          with_reducible rfl
        case ha70 =>
          simp only [Act.put, List.setIfInBounds_toArray, List.set_cons_zero, List.set_cons_succ]
          rfl
        refine pure_ (i := 8) (N := some 91) (v := ?v71) (a' := ?a71) #[true, true, true, true, true, true, true, true, true, false, true, false, false] rfl rfl (by kernel_rfl) (fun _ _ _ h => h) (Or.inl ⟨by rfl, ?hy71⟩) ?ha71 ?hh71
        case hy71 =>
          intro w'
          go_simp
          with_reducible rfl
        case ha71 =>
          simp only [Act.put, List.setIfInBounds_toArray, List.set_cons_zero, List.set_cons_succ]
          rfl
        refine pure_ (i := 9) (N := some 92) (v := ?v72) (a' := ?a72) #[true, true, true, true, true, true, true, true, true, true, true, false, false] rfl rfl (by kernel_rfl) (fun _ _ _ h => h) (Or.inl ⟨by rfl, ?hy72⟩) ?ha72 ?hh72
        case hy72 =>
          intro w'
          go_simp
          with_reducible rfl
        case ha72 =>
          simp only [Act.put, List.setIfInBounds_toArray, List.set_cons_zero, List.set_cons_succ]
          rfl
        have h := hJ b14 wsr105 ⟨hsr105, (keep_blk ksr105 ((keys_r10.out.low lnr101).low lar104).kz.at_.signed (blk_below (blk_below b5_r10.out lnr101) lar104)), (keep_blk ksr105 ((keys_r10.out.low lnr101).low lar104).kz.at_.signed (blk_below (blk_below b10_r10.out lnr101) lar104)), (keep_blk ksr105 ((keys_r10.out.low lnr101).low lar104).kz.at_.signed (blk_below (blk_below b12_r10.out lnr101) lar104)), (keep_blk ksr105 ((keys_r10.out.low lnr101).low lar104).kz.at_.signed b14b), by have z1 := lnr101.size; have z0 := blk_lt b12_r10.out; have z00 := HNb12.out; have z01 := HNb10.out; omega⟩
        simp only [putAll, Act.put, List.setIfInBounds_toArray, List.set_cons_zero, List.set_cons_succ] at h ⊢
        exact h
    case way2r10 =>
      refine box_step (by rfl) (N := 14) rfl (cs := (nums .u8 zeroD).toArray) (t := 27) (by first | (go_simp; done) | (go_simp; rfl)) ?_
      intro b14 b14e war106 b14b lar106
      refine hK.out _ _ (blk_below b5_r10.out lar106) (fun _ => ?_)
      clear hK K
      refine one_ (i := 3) (N := some 87) #[true, true, true, true, true, true, false, false, false, false, true, false, false] rfl rfl (by kernel_rfl) (by decide) (fun K hK => ?_)
      refine goes_ Tryd.func9 (by kernel_rfl) rfl #[.int .i64 p.1] (by rfl) rfl rfl (by simp only [List.map_toArray, List.map_cons, List.map_nil]; rfl) ?_
      refine (name_calls p.1 _).mono ?_
      rintro e wnr107 ⟨rfl, lnr107⟩
      refine ⟨_, rfl, hK.out _ _ (blk_below (blk_below b5_r10.out lar106) lnr107) (fun _ => ?_)⟩
      clear hK K
      refine one_ (i := 6) (N := some 90) #[true, true, true, true, true, true, true, false, false, false, true, false, false] rfl rfl (by kernel_rfl) (by decide) (fun K hK => ?_)
      refine goes_ Tryd.func11 (by kernel_rfl) rfl #[.pointer (some ⟨z.b, 0, none⟩), .string (nm p.1), .agg (nums .u8 p.2).toArray] (by rfl) rfl rfl (by simp only [List.map_toArray, List.map_cons, List.map_nil]; rfl) ?_
      refine (((keys_r10.out.low lar106).low lnr107).signZ rfl HF.out HL.out p.1 p.2 uv HUE.out HPD.out (by decide)).mono ?_
      rintro e wsr108 ⟨rfl, ksr108, hsr108⟩
      refine ⟨_, rfl, hK.out _ _ (keep_blk ksr108 ((keys_r10.out.low lar106).low lnr107).kz.at_.signed (blk_below (blk_below b5_r10.out lar106) lnr107)) (fun _ => ?_)⟩
      clear hK K
      refine pure_ (i := 7) (N := some 83) (v := ?v73) (a' := ?a73) #[true, true, true, true, true, true, true, true, false, false, true, false, false] rfl rfl (by kernel_rfl) (fun _ _ _ h => h) (Or.inl ⟨by rfl, ?hy73⟩) ?ha73 ?hh73
      case hy73 =>
        intro w'
        go_simp
        with_reducible rfl
      case ha73 =>
        simp only [Act.put, List.setIfInBounds_toArray, List.set_cons_zero, List.set_cons_succ]
        rfl
      refine pure_ (i := 8) (N := some 91) (v := ?v74) (a' := ?a74) #[true, true, true, true, true, true, true, true, true, false, true, false, false] rfl rfl (by kernel_rfl) (fun _ _ _ h => h) (Or.inl ⟨by rfl, ?hy74⟩) ?ha74 ?hh74
      case hy74 =>
        intro w'
        go_simp
        with_reducible rfl
      case ha74 =>
        simp only [Act.put, List.setIfInBounds_toArray, List.set_cons_zero, List.set_cons_succ]
        rfl
      refine pure_ (i := 9) (N := some 92) (v := ?v75) (a' := ?a75) #[true, true, true, true, true, true, true, true, true, true, true, false, false] rfl rfl (by kernel_rfl) (fun _ _ _ h => h) (Or.inl ⟨by rfl, ?hy75⟩) ?ha75 ?hh75
      case hy75 =>
        intro w'
        go_simp
        with_reducible rfl
      case ha75 =>
        simp only [Act.put, List.setIfInBounds_toArray, List.set_cons_zero, List.set_cons_succ]
        rfl
      have h := hJ b14 wsr108 ⟨hsr108, (keep_blk ksr108 ((keys_r10.out.low lar106).low lnr107).kz.at_.signed (blk_below (blk_below b5_r10.out lar106) lnr107)), (keep_blk ksr108 ((keys_r10.out.low lar106).low lnr107).kz.at_.signed (blk_below (blk_below b10_r10.out lar106) lnr107)), (keep_blk ksr108 ((keys_r10.out.low lar106).low lnr107).kz.at_.signed (blk_below (blk_below b12_r10.out lar106) lnr107)), (keep_blk ksr108 ((keys_r10.out.low lar106).low lnr107).kz.at_.signed (blk_below b14b lnr107)), by have z0 := blk_lt b12_r10.out; have z00 := HNb12.out; have z01 := HNb10.out; omega⟩
      simp only [putAll, Act.put, List.setIfInBounds_toArray, List.set_cons_zero, List.set_cons_succ] at h ⊢
      exact h
  intro b14 wjr10 hFr10
  obtain ⟨hkeysr10, hb5r10, hb10r10, hb12r10, hbzr10, hbsr10⟩ := hFr10
  clear keys_r10 b5_r10 b10_r10 b12_r10
  simp only [putAll, Act.put, List.setIfInBounds_toArray, List.set_cons_zero, List.set_cons_succ]
  refine one_ (i := 11) (N := none) #[true, true, true, true, true, true, true, true, true, true, true, true, false] rfl rfl (by kernel_rfl) (by decide) (fun K hK => ?_)
  rw [if_pos (by rfl)]
  refine wp_store_row 27 (.tmp 14) (.tmp 91) rfl b14 (nums .u8 uv).toArray rfl rfl 27 _ hbzr10 HDu.out.1 (by rw [HDu.out.2.1]; rfl) HDu.out.2.2 ?_
  have HNb14 := Aside0.mk hbsr10
  have Tr10 := Aside0.mk (hkeysr10.row (b := b14) (by have := HNb14.out; omega) (nums .u8 uv).toArray)
  have b14r10 := Aside0.mk (setRow_heap _ b14 _ (nums .u8 uv).toArray _ _ hbzr10)
  have b5r10s := Aside0.mk (blk_row (b := b14) hb5r10 (by have := HNb14.out; have := HN5.out; omega) (nums .u8 uv).toArray)
  have b10r10s := Aside0.mk (blk_row (b := b14) hb10r10 (by have := HNb14.out; have := HN5.out; omega) (nums .u8 uv).toArray)
  have b12r10s := Aside0.mk (blk_row (b := b14) hb12r10 (by have := HNb14.out; have := HN5.out; omega) (nums .u8 uv).toArray)
  obtain ⟨z1, hxr10⟩ : ∃ u, (z.signedWith (nm p.1) p.2 uv) = u := ⟨_, rfl⟩
  have HZ1 := Aside0.mk (show z1.b = z.b by rw [← hxr10]; rfl)
  rw [hxr10, List.nil_append] at Tr10
  clear hkeysr10 hb5r10 hb10r10 hb12r10 hbzr10 hbsr10 hxr10
  generalize wjr10.setRow b14 (nums .u8 uv).toArray = wr10 at Tr10 b14r10 b5r10s b10r10s b12r10s ⊢
  refine hK.out _ _ (b5r10s.out) (fun _ => ?_)
  clear hK K
  refine norm_ (a' := ?anr10) ?hnr10 ?hmr10
  case hnr10 =>
    show Act.put _ none _ = _
    simp only [Act.put]
    rfl
  refine pure_ (i := 12) (N := some 15) (v := ?v76) (a' := ?a76) #[true, true, true, true, true, true, true, true, true, true, true, true, true] rfl rfl (by kernel_rfl) (fun _ _ _ h => h) (Or.inl ⟨by rfl, ?hy76⟩) ?ha76 ?hh76
  case hy76 =>
    intro w'
    go_simp
    with_reducible rfl
  case ha76 =>
    simp only [Act.put, List.setIfInBounds_toArray, List.set_cons_zero, List.set_cons_succ]
    rfl
  refine done_ (by kernel_rfl) ?_
  go_wp2_with (fail)
  refine start_ (n := 31) (S := fun w' => Three nn x1 y1 z1 w w' sec oth [(p.1, p.2)] [(p.1, p.2)] [(p.1, p.2)] ∧ w'.heap[b5]? = some (.cells (.int .i64 p.1 :: nums .u8 p.2).toArray 35 (0, 0)) ∧ w'.heap[b10]? = some (.cells (nums .u8 sv).toArray 27 (0, 0)) ∧ w'.heap[b12]? = some (.cells (nums .u8 sv).toArray 27 (0, 0)) ∧ w'.heap[b14]? = some (.cells (nums .u8 uv).toArray 27 (0, 0))) (ds := []) #[false, false, false, false, false, false, false, false, false, false, false, false, false, false, false, false, false, false, false, false, false, false, false, false, false, false, false, false, false, false, false] (by kernel_rfl) rfl rfl ⟨Tr10.out.drew, blk_drew b5r10s.out, blk_drew b10r10s.out, blk_drew b12r10s.out, blk_drew b14r10.out⟩ (fun hHeld => ?_)
  refine pure_ (i := 0) (N := some 93) (v := ?v77) (a' := ?a77) #[true, false, false, false, false, false, false, false, false, false, false, false, false, false, false, false, false, false, false, false, false, false, false, false, false, false, false, false, false, false, false] rfl rfl (by kernel_rfl) (fun _ _ _ h => h) (Or.inl ⟨by rfl, ?hy77⟩) ?ha77 ?hh77
  case hy77 =>
    intro w'
    go_simp
    with_reducible rfl
  case ha77 =>
    simp only [Act.put, List.setIfInBounds_toArray, List.set_cons_zero, List.set_cons_succ]
    rfl
  refine pure_ (i := 1) (N := some 94) (v := ?v78) (a' := ?a78) #[true, true, false, false, false, false, false, false, false, false, false, false, false, false, false, false, false, false, false, false, false, false, false, false, false, false, false, false, false, false, false] rfl rfl (by kernel_rfl) (fun _ _ _ h => h) (Or.inl ⟨by rfl, ?hy78⟩) ?ha78 ?hh78
  case hy78 =>
    intro w'
    go_simp
    with_reducible rfl
  case ha78 =>
    simp only [Act.put, List.setIfInBounds_toArray, List.set_cons_zero, List.set_cons_succ]
    rfl
  refine pure_ (i := 2) (N := some 95) (v := ?v79) (a' := ?a79) #[true, true, true, false, false, false, false, false, false, false, false, false, false, false, false, false, false, false, false, false, false, false, false, false, false, false, false, false, false, false, false] rfl rfl (by kernel_rfl) (fun _ _ _ h => h) (Or.inl ⟨by rfl, ?hy79⟩) ?ha79 ?hh79
  case hy79 =>
    intro w'
    go_simp
    with_reducible rfl
  case ha79 =>
    simp only [Act.put, List.setIfInBounds_toArray, List.set_cons_zero, List.set_cons_succ]
    rfl
  refine pure_ (i := 3) (N := some 96) (v := ?v80) (a' := ?a80) #[true, true, true, true, false, false, false, false, false, false, false, false, false, false, false, false, false, false, false, false, false, false, false, false, false, false, false, false, false, false, false] rfl rfl (by kernel_rfl) (fun _ _ _ h => h) (Or.inl ⟨by rfl, ?hy80⟩) ?ha80 ?hh80
  case hy80 =>
    intro w'
    go_simp
    with_reducible rfl
  case ha80 =>
    simp only [Act.put, List.setIfInBounds_toArray, List.set_cons_zero, List.set_cons_succ]
    rfl
  refine pure_ (i := 4) (N := some 97) (v := ?v81) (a' := ?a81) #[true, true, true, true, true, false, false, false, false, false, false, false, false, false, false, false, false, false, false, false, false, false, false, false, false, false, false, false, false, false, false] rfl rfl (by kernel_rfl) (fun _ _ _ h => h) (Or.inl ⟨by rfl, ?hy81⟩) ?ha81 ?hh81
  case hy81 =>
    intro w'
    go_simp
    with_reducible rfl
  case ha81 =>
    simp only [Act.put, List.setIfInBounds_toArray, List.set_cons_zero, List.set_cons_succ]
    rfl
  refine pure_ (i := 5) (N := some 98) (v := ?v82) (a' := ?a82) #[true, true, true, true, true, true, false, false, false, false, false, false, false, false, false, false, false, false, false, false, false, false, false, false, false, false, false, false, false, false, false] rfl rfl (by kernel_rfl) (fun _ _ _ h => h) (Or.inl ⟨by rfl, ?hy82⟩) ?ha82 ?hh82
  case hy82 =>
    intro w'
    go_simp
    with_reducible rfl
  case ha82 =>
    simp only [Act.put, List.setIfInBounds_toArray, List.set_cons_zero, List.set_cons_succ]
    rfl
  refine pure_ (i := 6) (N := some 99) (v := ?v83) (a' := ?a83) #[true, true, true, true, true, true, true, false, false, false, false, false, false, false, false, false, false, false, false, false, false, false, false, false, false, false, false, false, false, false, false] rfl rfl (by kernel_rfl) (fun _ _ _ h => h) (Or.inl ⟨by rfl, ?hy83⟩) ?ha83 ?hh83
  case hy83 =>
    intro w'
    go_simp
    with_reducible rfl
  case ha83 =>
    simp only [Act.put, List.setIfInBounds_toArray, List.set_cons_zero, List.set_cons_succ]
    rfl
  refine take_ (i := 7) (N := some 100) (v := (.agg (nums .u8 sv).toArray)) (a' := ?a84) #[true, true, true, true, true, true, true, true, false, false, false, false, false, false, false, false, false, false, false, false, false, false, false, false, false, false, false, false, false, false, false] rfl rfl (by kernel_rfl) (fun _ _ _ h => h) (Or.inl ⟨by rfl, fun w' s0 => loadB_run (.tmp 10) rfl b10 rfl _ HSI.out.1 s0.2.2.1⟩) hHeld ?ha84 ?hh84
  case ha84 =>
    simp only [Act.put, List.setIfInBounds_toArray, List.set_cons_zero, List.set_cons_succ]
    rfl
  refine take_ (i := 8) (N := some 101) (v := (.agg (nums .u8 sv).toArray)) (a' := ?a85) #[true, true, true, true, true, true, true, true, true, false, false, false, false, false, false, false, false, false, false, false, false, false, false, false, false, false, false, false, false, false, false] rfl rfl (by kernel_rfl) (fun _ _ _ h => h) (Or.inl ⟨by rfl, fun w' s0 => loadB_run (.tmp 12) rfl b12 rfl _ HSI.out.1 s0.2.2.2.1⟩) hHeld ?ha85 ?hh85
  case ha85 =>
    simp only [Act.put, List.setIfInBounds_toArray, List.set_cons_zero, List.set_cons_succ]
    rfl
  refine pure_ (i := 9) (N := some 102) (v := (.bool false)) (a' := ?a86) #[true, true, true, true, true, true, true, true, true, true, false, false, false, false, false, false, false, false, false, false, false, false, false, false, false, false, false, false, false, false, false] rfl rfl (by kernel_rfl) (fun _ _ _ h => h) (Or.inl ⟨by rfl, fun w' => neqD_run _ (.tmp 100) (.tmp 101) rfl _ _ rfl rfl HSI.out HSI.out true (decide_eq_true rfl)⟩) ?ha86 ?hh86
  case ha86 =>
    simp only [Act.put, List.setIfInBounds_toArray, List.set_cons_zero, List.set_cons_succ]
    rfl
  refine pure_ (i := 10) (N := some 103) (v := ?v87) (a' := ?a87) #[true, true, true, true, true, true, true, true, true, true, true, false, false, false, false, false, false, false, false, false, false, false, false, false, false, false, false, false, false, false, false] rfl rfl (by kernel_rfl) (fun _ _ _ h => h) (Or.inl ⟨by rfl, ?hy87⟩) ?ha87 ?hh87
  case hy87 =>
    intro w'
    go_simp
    with_reducible rfl
  case ha87 =>
    simp only [Act.put, List.setIfInBounds_toArray, List.set_cons_zero, List.set_cons_succ]
    rfl
  refine pure_ (i := 11) (N := some 104) (v := ?v88) (a' := ?a88) #[true, true, true, true, true, true, true, true, true, true, true, true, false, false, false, false, false, false, false, false, false, false, false, false, false, false, false, false, false, false, false] rfl rfl (by kernel_rfl) (fun _ _ _ h => h) (Or.inl ⟨by rfl, ?hy88⟩) ?ha88 ?hh88
  case hy88 =>
    intro w'
    go_simp
    with_reducible rfl
  case ha88 =>
    simp only [Act.put, List.setIfInBounds_toArray, List.set_cons_zero, List.set_cons_succ]
    rfl
  refine pure_ (i := 12) (N := some 105) (v := ?v89) (a' := ?a89) #[true, true, true, true, true, true, true, true, true, true, true, true, true, false, false, false, false, false, false, false, false, false, false, false, false, false, false, false, false, false, false] rfl rfl (by kernel_rfl) (fun _ _ _ h => h) (Or.inl ⟨by rfl, ?hy89⟩) ?ha89 ?hh89
  case hy89 =>
    intro w'
    go_simp
    with_reducible rfl
  case ha89 =>
    simp only [Act.put, List.setIfInBounds_toArray, List.set_cons_zero, List.set_cons_succ]
    rfl
  refine pure_ (i := 13) (N := some 106) (v := (.pointer (some ⟨b5, 0, none⟩))) (a' := ?a90) #[true, true, true, true, true, true, true, true, true, true, true, true, true, true, false, false, false, false, false, false, false, false, false, false, false, false, false, false, false, false, false] rfl rfl (by kernel_rfl) (fun _ _ _ h => h) (Or.inl ⟨by rfl, fun w' => fld0_run (.tmp 5) rfl _ rfl⟩) ?ha90 ?hh90
  case ha90 =>
    simp only [Act.put, List.setIfInBounds_toArray, List.set_cons_zero, List.set_cons_succ]
    rfl
  refine take_ (i := 14) (N := some 107) (v := (.int .i64 p.1)) (a' := ?a91) #[true, true, true, true, true, true, true, true, true, true, true, true, true, true, true, false, false, false, false, false, false, false, false, false, false, false, false, false, false, false, false] rfl rfl (by kernel_rfl) (fun _ _ _ h => h) (Or.inl ⟨by rfl, fun w' s0 => loadI_run (.tmp 106) rfl _ rfl _ (arr_cell s0.2.1 0 rfl)⟩) hHeld ?ha91 ?hh91
  case ha91 =>
    simp only [Act.put, List.setIfInBounds_toArray, List.set_cons_zero, List.set_cons_succ]
    rfl
  refine pure_ (i := 16) (N := some 109) (v := (.pointer (some ⟨b5, 1, none⟩))) (a' := ?a92) #[true, true, true, true, true, true, true, true, true, true, true, true, true, true, true, false, true, false, false, false, false, false, false, false, false, false, false, false, false, false, false] rfl rfl (by kernel_rfl) (fun _ _ _ h => h) (Or.inl ⟨by rfl, fun w' => fldB1_run (.tmp 5) rfl b5 rfl⟩) ?ha92 ?hh92
  case ha92 =>
    simp only [Act.put, List.setIfInBounds_toArray, List.set_cons_zero, List.set_cons_succ]
    rfl
  refine take_ (i := 17) (N := some 110) (v := (.agg (nums .u8 p.2).toArray)) (a' := ?a93) #[true, true, true, true, true, true, true, true, true, true, true, true, true, true, true, false, true, true, false, false, false, false, false, false, false, false, false, false, false, false, false] rfl rfl (by kernel_rfl) (fun _ _ _ h => h) (Or.inl ⟨by rfl, fun w' s0 => loadD_run (.tmp 109) rfl _ rfl _ HPD.out.1 (boxP_dig s0.2.1)⟩) hHeld ?ha93 ?hh93
  case ha93 =>
    simp only [Act.put, List.setIfInBounds_toArray, List.set_cons_zero, List.set_cons_succ]
    rfl
  refine take_ (i := 18) (N := some 111) (v := (.agg (nums .u8 sv).toArray)) (a' := ?a94) #[true, true, true, true, true, true, true, true, true, true, true, true, true, true, true, false, true, true, true, false, false, false, false, false, false, false, false, false, false, false, false] rfl rfl (by kernel_rfl) (fun _ _ _ h => h) (Or.inl ⟨by rfl, fun w' s0 => loadB_run (.tmp 10) rfl b10 rfl _ HSI.out.1 s0.2.2.1⟩) hHeld ?ha94 ?hh94
  case ha94 =>
    simp only [Act.put, List.setIfInBounds_toArray, List.set_cons_zero, List.set_cons_succ]
    rfl
  refine one_ (i := 15) (N := some 108) #[true, true, true, true, true, true, true, true, true, true, true, true, true, true, true, true, true, true, true, false, false, false, false, false, false, false, false, false, false, false, false] rfl rfl (by kernel_rfl) (by decide) (fun K hK => ?_)
  refine goes_ Tryd.func9 (by kernel_rfl) rfl #[.int .i64 p.1] (by rfl) rfl rfl (by simp only [List.map_toArray, List.map_cons, List.map_nil]; rfl) ?_
  refine (name_calls p.1 _).mono ?_
  rintro e wn201 ⟨rfl, ln201⟩
  refine ⟨_, rfl, hK.out _ _ ⟨hHeld.1.low ln201, blk_below hHeld.2.1 ln201, blk_below hHeld.2.2.1 ln201, blk_below hHeld.2.2.2.1 ln201, blk_below hHeld.2.2.2.2 ln201⟩ (fun hHeld => ?_)⟩
  clear hK K ln201
  refine norm_ (a' := ?a95) ?ha95 ?hh95
  case ha95 =>
    show Act.put _ (some 108) _ = _
    simp only [Act.put, List.setIfInBounds_toArray, List.set_cons_zero, List.set_cons_succ]
    rfl
  refine one_ (i := 19) (N := some 112) #[true, true, true, true, true, true, true, true, true, true, true, true, true, true, true, true, true, true, true, true, false, false, false, false, false, false, false, false, false, false, false] rfl rfl (by kernel_rfl) (by decide) (fun K hK => ?_)
  refine goes_ Tryd.func10 (by kernel_rfl) rfl #[.pointer (some ⟨y.b, 0, none⟩), .string (nm p.1), .agg (nums .u8 p.2).toArray, .agg (nums .u8 sv).toArray] (by rfl) rfl rfl (by simp only [List.map_toArray, List.map_cons, List.map_nil]; rfl) ?_
  refine (show Calls Tryd.prog 10 #[.pointer (some ⟨y.b, 0, none⟩), .string (nm p.1), .agg (nums .u8 p.2).toArray, .agg (nums .u8 sv).toArray] _ _ from hHeld.1.ky.verifyB HY1.out p.1 p.2 sv HPD.out HSI.out).mono ?_
  rintro e wv202 ⟨rfl, lv202⟩
  rw [show decide (sf sec [(p.1, p.2)] (nm p.1, p.2) = some sv) = true from (by rw [sf_mem sec (p := (p.1, p.2)) (List.mem_singleton.2 rfl), HSE.out]; exact decide_eq_true rfl)]
  refine ⟨_, rfl, hK.out _ _ ⟨hHeld.1.low lv202, blk_below hHeld.2.1 lv202, blk_below hHeld.2.2.1 lv202, blk_below hHeld.2.2.2.1 lv202, blk_below hHeld.2.2.2.2 lv202⟩ (fun hHeld => ?_)⟩
  clear hK K lv202
  refine norm_ (a' := ?a96) ?ha96 ?hh96
  case ha96 =>
    show Act.put _ (some 112) _ = _
    simp only [Act.put, List.setIfInBounds_toArray, List.set_cons_zero, List.set_cons_succ]
    rfl
  refine pure_ (i := 20) (N := some 113) (v := ?v97) (a' := ?a97) #[true, true, true, true, true, true, true, true, true, true, true, true, true, true, true, true, true, true, true, true, true, false, false, false, false, false, false, false, false, false, false] rfl rfl (by kernel_rfl) (fun _ _ _ h => h) (Or.inl ⟨by rfl, ?hy97⟩) ?ha97 ?hh97
  case hy97 =>
    intro w'
    go_simp
    with_reducible rfl
  case ha97 =>
    simp only [Act.put, List.setIfInBounds_toArray, List.set_cons_zero, List.set_cons_succ]
    rfl
  refine pure_ (i := 21) (N := some 114) (v := ?v98) (a' := ?a98) #[true, true, true, true, true, true, true, true, true, true, true, true, true, true, true, true, true, true, true, true, true, true, false, false, false, false, false, false, false, false, false] rfl rfl (by kernel_rfl) (fun _ _ _ h => h) (Or.inl ⟨by rfl, ?hy98⟩) ?ha98 ?hh98
  case hy98 =>
    intro w'
    go_simp
    with_reducible rfl
  case ha98 =>
    simp only [Act.put, List.setIfInBounds_toArray, List.set_cons_zero, List.set_cons_succ]
    rfl
  refine pure_ (i := 22) (N := some 115) (v := ?v99) (a' := ?a99) #[true, true, true, true, true, true, true, true, true, true, true, true, true, true, true, true, true, true, true, true, true, true, true, false, false, false, false, false, false, false, false] rfl rfl (by kernel_rfl) (fun _ _ _ h => h) (Or.inl ⟨by rfl, ?hy99⟩) ?ha99 ?hh99
  case hy99 =>
    intro w'
    go_simp
    with_reducible rfl
  case ha99 =>
    simp only [Act.put, List.setIfInBounds_toArray, List.set_cons_zero, List.set_cons_succ]
    rfl
  refine pure_ (i := 23) (N := some 116) (v := ?v100) (a' := ?a100) #[true, true, true, true, true, true, true, true, true, true, true, true, true, true, true, true, true, true, true, true, true, true, true, true, false, false, false, false, false, false, false] rfl rfl (by kernel_rfl) (fun _ _ _ h => h) (Or.inl ⟨by rfl, ?hy100⟩) ?ha100 ?hh100
  case hy100 =>
    intro w'
    go_simp
    with_reducible rfl
  case ha100 =>
    simp only [Act.put, List.setIfInBounds_toArray, List.set_cons_zero, List.set_cons_succ]
    rfl
  refine pure_ (i := 24) (N := some 117) (v := (.pointer (some ⟨b5, 0, none⟩))) (a' := ?a101) #[true, true, true, true, true, true, true, true, true, true, true, true, true, true, true, true, true, true, true, true, true, true, true, true, true, false, false, false, false, false, false] rfl rfl (by kernel_rfl) (fun _ _ _ h => h) (Or.inl ⟨by rfl, fun w' => fld0_run (.tmp 5) rfl _ rfl⟩) ?ha101 ?hh101
  case ha101 =>
    simp only [Act.put, List.setIfInBounds_toArray, List.set_cons_zero, List.set_cons_succ]
    rfl
  refine take_ (i := 25) (N := some 118) (v := (.int .i64 p.1)) (a' := ?a102) #[true, true, true, true, true, true, true, true, true, true, true, true, true, true, true, true, true, true, true, true, true, true, true, true, true, true, false, false, false, false, false] rfl rfl (by kernel_rfl) (fun _ _ _ h => h) (Or.inl ⟨by rfl, fun w' s0 => loadI_run (.tmp 117) rfl _ rfl _ (arr_cell s0.2.1 0 rfl)⟩) hHeld ?ha102 ?hh102
  case ha102 =>
    simp only [Act.put, List.setIfInBounds_toArray, List.set_cons_zero, List.set_cons_succ]
    rfl
  refine one_ (i := 26) (N := some 119) #[true, true, true, true, true, true, true, true, true, true, true, true, true, true, true, true, true, true, true, true, true, true, true, true, true, true, true, false, false, false, false] rfl rfl (by kernel_rfl) (by decide) (fun K hK => ?_)
  refine goes_ Tryd.func9 (by kernel_rfl) rfl #[.int .i64 p.1] (by rfl) rfl rfl (by simp only [List.map_toArray, List.map_cons, List.map_nil]; rfl) ?_
  refine (name_calls p.1 _).mono ?_
  rintro e wn203 ⟨rfl, ln203⟩
  refine ⟨_, rfl, hK.out _ _ ⟨hHeld.1.low ln203, blk_below hHeld.2.1 ln203, blk_below hHeld.2.2.1 ln203, blk_below hHeld.2.2.2.1 ln203, blk_below hHeld.2.2.2.2 ln203⟩ (fun hHeld => ?_)⟩
  clear hK K ln203
  refine norm_ (a' := ?a103) ?ha103 ?hh103
  case ha103 =>
    show Act.put _ (some 119) _ = _
    simp only [Act.put, List.setIfInBounds_toArray, List.set_cons_zero, List.set_cons_succ]
    rfl
  refine one_ (i := 27) (N := some 120) #[true, true, true, true, true, true, true, true, true, true, true, true, true, true, true, true, true, true, true, true, true, true, true, true, true, true, true, true, false, false, false] rfl rfl (by kernel_rfl) (by decide) (fun K hK => ?_)
  refine goes_ Tryd.func17 (by kernel_rfl) rfl #[.pointer (some ⟨x.b, 0, none⟩), .string (nm p.1)] (by rfl) rfl rfl (by simp only [List.map_toArray, List.map_cons, List.map_nil]; rfl) ?_
  refine (show Calls Tryd.prog 17 #[.pointer (some ⟨x.b, 0, none⟩), .string (nm p.1)] _ _ from (keys_count1B hHeld.1.kx HX1.out HPD.out hHeld.1.ox)).mono ?_
  rintro e wc204 ⟨Ac204, cc204, rfl, lc204⟩
  refine ⟨_, rfl, hK.out _ _ ⟨hHeld.1.low lc204, blk_below hHeld.2.1 lc204, blk_below hHeld.2.2.1 lc204, blk_below hHeld.2.2.2.1 lc204, blk_below hHeld.2.2.2.2 lc204⟩ (fun hHeld => ?_)⟩
  clear hK K lc204
  refine norm_ (a' := ?a104) ?ha104 ?hh104
  case ha104 =>
    show Act.put _ (some 120) _ = _
    simp only [Act.put, List.setIfInBounds_toArray, List.set_cons_zero, List.set_cons_succ]
    rfl
  refine pure_ (i := 28) (N := some 121) (v := ?v105) (a' := ?a105) #[true, true, true, true, true, true, true, true, true, true, true, true, true, true, true, true, true, true, true, true, true, true, true, true, true, true, true, true, true, false, false] rfl rfl (by kernel_rfl) (fun _ _ _ h => h) (Or.inl ⟨by rfl, ?hy105⟩) ?ha105 ?hh105
  case hy105 =>
    intro w'
    go_simp
    with_reducible rfl
  case ha105 =>
    simp only [Act.put, List.setIfInBounds_toArray, List.set_cons_zero, List.set_cons_succ]
    rfl
  refine pure_ (i := 29) (N := some 122) (v := ?v106) (a' := ?a106) #[true, true, true, true, true, true, true, true, true, true, true, true, true, true, true, true, true, true, true, true, true, true, true, true, true, true, true, true, true, true, false] rfl rfl (by kernel_rfl) (fun _ _ _ h => h) (Or.inl ⟨by rfl, ?hy106⟩) ?ha106 ?hh106
  case hy106 =>
    intro w'
    go_simp
    with_reducible rfl
  case ha106 =>
    simp only [Act.put, List.setIfInBounds_toArray, List.set_cons_zero, List.set_cons_succ]
    rfl
  refine pure_ (i := 30) (N := some 123) (v := ?v107) (a' := ?a107) #[true, true, true, true, true, true, true, true, true, true, true, true, true, true, true, true, true, true, true, true, true, true, true, true, true, true, true, true, true, true, true] rfl rfl (by kernel_rfl) (fun _ _ _ h => h) (Or.inl ⟨by rfl, ?hy107⟩) ?ha107 ?hh107
  case hy107 =>
    intro w'
    go_simp
    with_reducible rfl
  case ha107 =>
    simp only [Act.put, List.setIfInBounds_toArray, List.set_cons_zero, List.set_cons_succ]
    rfl
  refine done_ (by kernel_rfl) ?_
  have keys_r11 := Aside0.mk hHeld.1
  have b5_r11 := Aside0.mk hHeld.2.1
  have b10_r11 := Aside0.mk hHeld.2.2.1
  have b12_r11 := Aside0.mk hHeld.2.2.2.1
  have b14_r11 := Aside0.mk hHeld.2.2.2.2
  clear hHeld Tr10 b5r10s b10r10s b12r10s b14r10
  go_wp2_with (fail)
  obtain ⟨bo, hbo⟩ : ∃ b : Bool, decide (sv = uv) = b := ⟨_, rfl⟩
  have HBO := Aside0.mk hbo
  clear hbo
  cases bo with
  | true =>
    refine wp_region_noPanic ?_
    refine start_ (n := 13) (S := fun w' => Three nn x1 y1 z1 w w' sec oth [(p.1, p.2)] [(p.1, p.2)] [(p.1, p.2)] ∧ w'.heap[b5]? = some (.cells (.int .i64 p.1 :: nums .u8 p.2).toArray 35 (0, 0)) ∧ w'.heap[b10]? = some (.cells (nums .u8 sv).toArray 27 (0, 0)) ∧ w'.heap[b12]? = some (.cells (nums .u8 sv).toArray 27 (0, 0)) ∧ w'.heap[b14]? = some (.cells (nums .u8 uv).toArray 27 (0, 0))) (ds := []) #[false, false, false, false, false, false, false, false, false, false, false, false, false] (by kernel_rfl) rfl rfl ⟨keys_r11.out.drew, blk_drew b5_r11.out, blk_drew b10_r11.out, blk_drew b12_r11.out, blk_drew b14_r11.out⟩ (fun hHeld => ?_)
    refine pure_ (i := 0) (N := some 124) (v := ?v108) (a' := ?a108) #[true, false, false, false, false, false, false, false, false, false, false, false, false] rfl rfl (by kernel_rfl) (fun _ _ _ h => h) (Or.inl ⟨by rfl, ?hy108⟩) ?ha108 ?hh108
    case hy108 =>
      intro w'
      go_simp
      with_reducible rfl
    case ha108 =>
      simp only [Act.put, List.setIfInBounds_toArray, List.set_cons_zero, List.set_cons_succ]
      rfl
    refine pure_ (i := 1) (N := some 125) (v := (.pointer (some ⟨b5, 0, none⟩))) (a' := ?a109) #[true, true, false, false, false, false, false, false, false, false, false, false, false] rfl rfl (by kernel_rfl) (fun _ _ _ h => h) (Or.inl ⟨by rfl, fun w' => fld0_run (.tmp 5) rfl _ rfl⟩) ?ha109 ?hh109
    case ha109 =>
      simp only [Act.put, List.setIfInBounds_toArray, List.set_cons_zero, List.set_cons_succ]
      rfl
    refine take_ (i := 2) (N := some 126) (v := (.int .i64 p.1)) (a' := ?a110) #[true, true, true, false, false, false, false, false, false, false, false, false, false] rfl rfl (by kernel_rfl) (fun _ _ _ h => h) (Or.inl ⟨by rfl, fun w' s0 => loadI_run (.tmp 125) rfl _ rfl _ (arr_cell s0.2.1 0 rfl)⟩) hHeld ?ha110 ?hh110
    case ha110 =>
      simp only [Act.put, List.setIfInBounds_toArray, List.set_cons_zero, List.set_cons_succ]
      rfl
    refine pure_ (i := 4) (N := some 128) (v := (.pointer (some ⟨b5, 1, none⟩))) (a' := ?a111) #[true, true, true, false, true, false, false, false, false, false, false, false, false] rfl rfl (by kernel_rfl) (fun _ _ _ h => h) (Or.inl ⟨by rfl, fun w' => fldB1_run (.tmp 5) rfl b5 rfl⟩) ?ha111 ?hh111
    case ha111 =>
      simp only [Act.put, List.setIfInBounds_toArray, List.set_cons_zero, List.set_cons_succ]
      rfl
    refine take_ (i := 5) (N := some 129) (v := (.agg (nums .u8 p.2).toArray)) (a' := ?a112) #[true, true, true, false, true, true, false, false, false, false, false, false, false] rfl rfl (by kernel_rfl) (fun _ _ _ h => h) (Or.inl ⟨by rfl, fun w' s0 => loadD_run (.tmp 128) rfl _ rfl _ HPD.out.1 (boxP_dig s0.2.1)⟩) hHeld ?ha112 ?hh112
    case ha112 =>
      simp only [Act.put, List.setIfInBounds_toArray, List.set_cons_zero, List.set_cons_succ]
      rfl
    refine take_ (i := 6) (N := some 130) (v := (.agg (nums .u8 sv).toArray)) (a' := ?a113) #[true, true, true, false, true, true, true, false, false, false, false, false, false] rfl rfl (by kernel_rfl) (fun _ _ _ h => h) (Or.inl ⟨by rfl, fun w' s0 => loadB_run (.tmp 10) rfl b10 rfl _ HSI.out.1 s0.2.2.1⟩) hHeld ?ha113 ?hh113
    case ha113 =>
      simp only [Act.put, List.setIfInBounds_toArray, List.set_cons_zero, List.set_cons_succ]
      rfl
    refine take_ (i := 8) (N := some 132) (v := (.agg (nums .u8 sv).toArray)) (a' := ?a114) #[true, true, true, false, true, true, true, false, true, false, false, false, false] rfl rfl (by kernel_rfl) (fun _ _ _ h => h) (Or.inl ⟨by rfl, fun w' s0 => loadB_run (.tmp 10) rfl b10 rfl _ HSI.out.1 s0.2.2.1⟩) hHeld ?ha114 ?hh114
    case ha114 =>
      simp only [Act.put, List.setIfInBounds_toArray, List.set_cons_zero, List.set_cons_succ]
      rfl
    refine take_ (i := 9) (N := some 133) (v := (.agg (nums .u8 uv).toArray)) (a' := ?a115) #[true, true, true, false, true, true, true, false, true, true, false, false, false] rfl rfl (by kernel_rfl) (fun _ _ _ h => h) (Or.inl ⟨by rfl, fun w' s0 => loadB_run (.tmp 14) rfl b14 rfl _ HUI.out.1 s0.2.2.2.2⟩) hHeld ?ha115 ?hh115
    case ha115 =>
      simp only [Act.put, List.setIfInBounds_toArray, List.set_cons_zero, List.set_cons_succ]
      rfl
    refine pure_ (i := 10) (N := some 134) (v := (.bool true)) (a' := ?a116) #[true, true, true, false, true, true, true, false, true, true, true, false, false] rfl rfl (by kernel_rfl) (fun _ _ _ h => h) (Or.inl ⟨by rfl, fun w' => eqlD_run _ (.tmp 132) (.tmp 133) rfl _ _ rfl rfl HSI.out HUI.out true HBO.out⟩) ?ha116 ?hh116
    case ha116 =>
      simp only [Act.put, List.setIfInBounds_toArray, List.set_cons_zero, List.set_cons_succ]
      rfl
    refine one_ (i := 3) (N := some 127) #[true, true, true, true, true, true, true, false, true, true, true, false, false] rfl rfl (by kernel_rfl) (by decide) (fun K hK => ?_)
    refine goes_ Tryd.func9 (by kernel_rfl) rfl #[.int .i64 p.1] (by rfl) rfl rfl (by simp only [List.map_toArray, List.map_cons, List.map_nil]; rfl) ?_
    refine (name_calls p.1 _).mono ?_
    rintro e wn301 ⟨rfl, ln301⟩
    refine ⟨_, rfl, hK.out _ _ ⟨hHeld.1.low ln301, blk_below hHeld.2.1 ln301, blk_below hHeld.2.2.1 ln301, blk_below hHeld.2.2.2.1 ln301, blk_below hHeld.2.2.2.2 ln301⟩ (fun hHeld => ?_)⟩
    clear hK K ln301
    refine norm_ (a' := ?a117) ?ha117 ?hh117
    case ha117 =>
      show Act.put _ (some 127) _ = _
      simp only [Act.put, List.setIfInBounds_toArray, List.set_cons_zero, List.set_cons_succ]
      rfl
    refine one_ (i := 7) (N := some 131) #[true, true, true, true, true, true, true, true, true, true, true, false, false] rfl rfl (by kernel_rfl) (by decide) (fun K hK => ?_)
    refine goes_ Tryd.func10 (by kernel_rfl) rfl #[.pointer (some ⟨z.b, 0, none⟩), .string (nm p.1), .agg (nums .u8 p.2).toArray, .agg (nums .u8 sv).toArray] (by rfl) rfl rfl (by simp only [List.map_toArray, List.map_cons, List.map_nil]; rfl) ?_
    refine (show Calls Tryd.prog 10 #[.pointer (some ⟨z.b, 0, none⟩), .string (nm p.1), .agg (nums .u8 p.2).toArray, .agg (nums .u8 sv).toArray] _ _ from hHeld.1.kz.verifyB HZ1.out p.1 p.2 sv HPD.out HSI.out).mono ?_
    rintro e wv302 ⟨rfl, lv302⟩
    rw [show decide (sf oth [(p.1, p.2)] (nm p.1, p.2) = some sv) = true from (by rw [sf_mem oth (p := (p.1, p.2)) (List.mem_singleton.2 rfl), HUE.out, ← HBO.out]; exact decide_eq_decide.2 ⟨fun h => (Option.some.inj h).symm, fun h => congrArg some h.symm⟩)]
    refine ⟨_, rfl, hK.out _ _ ⟨hHeld.1.low lv302, blk_below hHeld.2.1 lv302, blk_below hHeld.2.2.1 lv302, blk_below hHeld.2.2.2.1 lv302, blk_below hHeld.2.2.2.2 lv302⟩ (fun hHeld => ?_)⟩
    clear hK K lv302
    refine norm_ (a' := ?a118) ?ha118 ?hh118
    case ha118 =>
      show Act.put _ (some 131) _ = _
      simp only [Act.put, List.setIfInBounds_toArray, List.set_cons_zero, List.set_cons_succ]
      rfl
    refine pure_ (i := 11) (N := some 135) (v := ?v119) (a' := ?a119) #[true, true, true, true, true, true, true, true, true, true, true, true, false] rfl rfl (by kernel_rfl) (fun _ _ _ h => h) (Or.inl ⟨by rfl, ?hy119⟩) ?ha119 ?hh119
    case hy119 =>
      intro w'
      go_simp
      with_reducible rfl
    case ha119 =>
      simp only [Act.put, List.setIfInBounds_toArray, List.set_cons_zero, List.set_cons_succ]
      rfl
    refine pure_ (i := 12) (N := some 6) (v := ?v120) (a' := ?a120) #[true, true, true, true, true, true, true, true, true, true, true, true, true] rfl rfl (by kernel_rfl) (fun _ _ _ h => h) (Or.inl ⟨by rfl, ?hy120⟩) ?ha120 ?hh120
    case hy120 =>
      intro w'
      go_simp
      with_reducible rfl
    case ha120 =>
      simp only [Act.put, List.setIfInBounds_toArray, List.set_cons_zero, List.set_cons_succ]
      rfl
    refine done_ (by kernel_rfl) ?_
    refine NoPanic.normal ?_
    have TE := Aside0.mk hHeld.1
    clear hHeld
    go_wp2
    go_ret
    exact ⟨rfl, TE.out.kx.below⟩
  | false =>
    refine wp_region_noPanic ?_
    refine start_ (n := 13) (S := fun w' => Three nn x1 y1 z1 w w' sec oth [(p.1, p.2)] [(p.1, p.2)] [(p.1, p.2)] ∧ w'.heap[b5]? = some (.cells (.int .i64 p.1 :: nums .u8 p.2).toArray 35 (0, 0)) ∧ w'.heap[b10]? = some (.cells (nums .u8 sv).toArray 27 (0, 0)) ∧ w'.heap[b12]? = some (.cells (nums .u8 sv).toArray 27 (0, 0)) ∧ w'.heap[b14]? = some (.cells (nums .u8 uv).toArray 27 (0, 0))) (ds := []) #[false, false, false, false, false, false, false, false, false, false, false, false, false] (by kernel_rfl) rfl rfl ⟨keys_r11.out.drew, blk_drew b5_r11.out, blk_drew b10_r11.out, blk_drew b12_r11.out, blk_drew b14_r11.out⟩ (fun hHeld => ?_)
    refine pure_ (i := 0) (N := some 124) (v := ?v121) (a' := ?a121) #[true, false, false, false, false, false, false, false, false, false, false, false, false] rfl rfl (by kernel_rfl) (fun _ _ _ h => h) (Or.inl ⟨by rfl, ?hy121⟩) ?ha121 ?hh121
    case hy121 =>
      intro w'
      go_simp
      with_reducible rfl
    case ha121 =>
      simp only [Act.put, List.setIfInBounds_toArray, List.set_cons_zero, List.set_cons_succ]
      rfl
    refine pure_ (i := 1) (N := some 125) (v := (.pointer (some ⟨b5, 0, none⟩))) (a' := ?a122) #[true, true, false, false, false, false, false, false, false, false, false, false, false] rfl rfl (by kernel_rfl) (fun _ _ _ h => h) (Or.inl ⟨by rfl, fun w' => fld0_run (.tmp 5) rfl _ rfl⟩) ?ha122 ?hh122
    case ha122 =>
      simp only [Act.put, List.setIfInBounds_toArray, List.set_cons_zero, List.set_cons_succ]
      rfl
    refine take_ (i := 2) (N := some 126) (v := (.int .i64 p.1)) (a' := ?a123) #[true, true, true, false, false, false, false, false, false, false, false, false, false] rfl rfl (by kernel_rfl) (fun _ _ _ h => h) (Or.inl ⟨by rfl, fun w' s0 => loadI_run (.tmp 125) rfl _ rfl _ (arr_cell s0.2.1 0 rfl)⟩) hHeld ?ha123 ?hh123
    case ha123 =>
      simp only [Act.put, List.setIfInBounds_toArray, List.set_cons_zero, List.set_cons_succ]
      rfl
    refine pure_ (i := 4) (N := some 128) (v := (.pointer (some ⟨b5, 1, none⟩))) (a' := ?a124) #[true, true, true, false, true, false, false, false, false, false, false, false, false] rfl rfl (by kernel_rfl) (fun _ _ _ h => h) (Or.inl ⟨by rfl, fun w' => fldB1_run (.tmp 5) rfl b5 rfl⟩) ?ha124 ?hh124
    case ha124 =>
      simp only [Act.put, List.setIfInBounds_toArray, List.set_cons_zero, List.set_cons_succ]
      rfl
    refine take_ (i := 5) (N := some 129) (v := (.agg (nums .u8 p.2).toArray)) (a' := ?a125) #[true, true, true, false, true, true, false, false, false, false, false, false, false] rfl rfl (by kernel_rfl) (fun _ _ _ h => h) (Or.inl ⟨by rfl, fun w' s0 => loadD_run (.tmp 128) rfl _ rfl _ HPD.out.1 (boxP_dig s0.2.1)⟩) hHeld ?ha125 ?hh125
    case ha125 =>
      simp only [Act.put, List.setIfInBounds_toArray, List.set_cons_zero, List.set_cons_succ]
      rfl
    refine take_ (i := 6) (N := some 130) (v := (.agg (nums .u8 sv).toArray)) (a' := ?a126) #[true, true, true, false, true, true, true, false, false, false, false, false, false] rfl rfl (by kernel_rfl) (fun _ _ _ h => h) (Or.inl ⟨by rfl, fun w' s0 => loadB_run (.tmp 10) rfl b10 rfl _ HSI.out.1 s0.2.2.1⟩) hHeld ?ha126 ?hh126
    case ha126 =>
      simp only [Act.put, List.setIfInBounds_toArray, List.set_cons_zero, List.set_cons_succ]
      rfl
    refine take_ (i := 8) (N := some 132) (v := (.agg (nums .u8 sv).toArray)) (a' := ?a127) #[true, true, true, false, true, true, true, false, true, false, false, false, false] rfl rfl (by kernel_rfl) (fun _ _ _ h => h) (Or.inl ⟨by rfl, fun w' s0 => loadB_run (.tmp 10) rfl b10 rfl _ HSI.out.1 s0.2.2.1⟩) hHeld ?ha127 ?hh127
    case ha127 =>
      simp only [Act.put, List.setIfInBounds_toArray, List.set_cons_zero, List.set_cons_succ]
      rfl
    refine take_ (i := 9) (N := some 133) (v := (.agg (nums .u8 uv).toArray)) (a' := ?a128) #[true, true, true, false, true, true, true, false, true, true, false, false, false] rfl rfl (by kernel_rfl) (fun _ _ _ h => h) (Or.inl ⟨by rfl, fun w' s0 => loadB_run (.tmp 14) rfl b14 rfl _ HUI.out.1 s0.2.2.2.2⟩) hHeld ?ha128 ?hh128
    case ha128 =>
      simp only [Act.put, List.setIfInBounds_toArray, List.set_cons_zero, List.set_cons_succ]
      rfl
    refine pure_ (i := 10) (N := some 134) (v := (.bool false)) (a' := ?a129) #[true, true, true, false, true, true, true, false, true, true, true, false, false] rfl rfl (by kernel_rfl) (fun _ _ _ h => h) (Or.inl ⟨by rfl, fun w' => eqlD_run _ (.tmp 132) (.tmp 133) rfl _ _ rfl rfl HSI.out HUI.out false HBO.out⟩) ?ha129 ?hh129
    case ha129 =>
      simp only [Act.put, List.setIfInBounds_toArray, List.set_cons_zero, List.set_cons_succ]
      rfl
    refine one_ (i := 3) (N := some 127) #[true, true, true, true, true, true, true, false, true, true, true, false, false] rfl rfl (by kernel_rfl) (by decide) (fun K hK => ?_)
    refine goes_ Tryd.func9 (by kernel_rfl) rfl #[.int .i64 p.1] (by rfl) rfl rfl (by simp only [List.map_toArray, List.map_cons, List.map_nil]; rfl) ?_
    refine (name_calls p.1 _).mono ?_
    rintro e wn301 ⟨rfl, ln301⟩
    refine ⟨_, rfl, hK.out _ _ ⟨hHeld.1.low ln301, blk_below hHeld.2.1 ln301, blk_below hHeld.2.2.1 ln301, blk_below hHeld.2.2.2.1 ln301, blk_below hHeld.2.2.2.2 ln301⟩ (fun hHeld => ?_)⟩
    clear hK K ln301
    refine norm_ (a' := ?a130) ?ha130 ?hh130
    case ha130 =>
      show Act.put _ (some 127) _ = _
      simp only [Act.put, List.setIfInBounds_toArray, List.set_cons_zero, List.set_cons_succ]
      rfl
    refine one_ (i := 7) (N := some 131) #[true, true, true, true, true, true, true, true, true, true, true, false, false] rfl rfl (by kernel_rfl) (by decide) (fun K hK => ?_)
    refine goes_ Tryd.func10 (by kernel_rfl) rfl #[.pointer (some ⟨z.b, 0, none⟩), .string (nm p.1), .agg (nums .u8 p.2).toArray, .agg (nums .u8 sv).toArray] (by rfl) rfl rfl (by simp only [List.map_toArray, List.map_cons, List.map_nil]; rfl) ?_
    refine (show Calls Tryd.prog 10 #[.pointer (some ⟨z.b, 0, none⟩), .string (nm p.1), .agg (nums .u8 p.2).toArray, .agg (nums .u8 sv).toArray] _ _ from hHeld.1.kz.verifyB HZ1.out p.1 p.2 sv HPD.out HSI.out).mono ?_
    rintro e wv302 ⟨rfl, lv302⟩
    rw [show decide (sf oth [(p.1, p.2)] (nm p.1, p.2) = some sv) = false from (by rw [sf_mem oth (p := (p.1, p.2)) (List.mem_singleton.2 rfl), HUE.out, ← HBO.out]; exact decide_eq_decide.2 ⟨fun h => (Option.some.inj h).symm, fun h => congrArg some h.symm⟩)]
    refine ⟨_, rfl, hK.out _ _ ⟨hHeld.1.low lv302, blk_below hHeld.2.1 lv302, blk_below hHeld.2.2.1 lv302, blk_below hHeld.2.2.2.1 lv302, blk_below hHeld.2.2.2.2 lv302⟩ (fun hHeld => ?_)⟩
    clear hK K lv302
    refine norm_ (a' := ?a131) ?ha131 ?hh131
    case ha131 =>
      show Act.put _ (some 131) _ = _
      simp only [Act.put, List.setIfInBounds_toArray, List.set_cons_zero, List.set_cons_succ]
      rfl
    refine pure_ (i := 11) (N := some 135) (v := ?v132) (a' := ?a132) #[true, true, true, true, true, true, true, true, true, true, true, true, false] rfl rfl (by kernel_rfl) (fun _ _ _ h => h) (Or.inl ⟨by rfl, ?hy132⟩) ?ha132 ?hh132
    case hy132 =>
      intro w'
      go_simp
      with_reducible rfl
    case ha132 =>
      simp only [Act.put, List.setIfInBounds_toArray, List.set_cons_zero, List.set_cons_succ]
      rfl
    refine pure_ (i := 12) (N := some 6) (v := ?v133) (a' := ?a133) #[true, true, true, true, true, true, true, true, true, true, true, true, true] rfl rfl (by kernel_rfl) (fun _ _ _ h => h) (Or.inl ⟨by rfl, ?hy133⟩) ?ha133 ?hh133
    case hy133 =>
      intro w'
      go_simp
      with_reducible rfl
    case ha133 =>
      simp only [Act.put, List.setIfInBounds_toArray, List.set_cons_zero, List.set_cons_succ]
      rfl
    refine done_ (by kernel_rfl) ?_
    refine NoPanic.normal ?_
    have TE := Aside0.mk hHeld.1
    clear hHeld
    go_wp2
    go_ret
    exact ⟨rfl, TE.out.kx.below⟩
end Go.Proofs.YtoigoiefnapokaaDoor.T
