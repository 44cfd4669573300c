/- GCTake; Frame6; GSpare; T2: texts of this claim, laid together. -/
import Derived.Test.YtdplpcedfkfajaaDoorM0Ca
import Derived.Deep.LoopGhost
import Derived.Shelf.Abstract
import Derived.Lib.Walk
import Derived.WalkLawsBesides
import Derived.Lib.EndianBits
import Derived.Test.YtdplpcedfkfajaaDoorRows
import Derived.Test.YtdplpcedfkfajaaDoorCards
import Derived.Test.YtdplpcedfkfajaaDoorTie
import Derived.Deep.Slices
import Derived.WalkKit
import Derived.ProofKit
import Derived.OpenShut
import Derived.Carry
import Derived.Deep.Strs
import Derived.Deep.DeepHandedRow
import Derived.Lib.LaidTab
import Derived.Deep.RegionHeld3
import Derived.Deep.DrawnRows
/- The walks of codec.need, take, number, small, natural. -/
set_option linter.unusedVariables false
set_option linter.unusedSimpArgs false
namespace Go.Proofs.YtdplpcedfkfajaaDoor.T
open Go.RowKit Go.Proofs.YtdplpcedfkfajaaDoorW.PrintWords Go.Proofs.YtdplpcedfkfajaaDoorW.PrintLast
/-- A reader gives up with this error. -/
abbrev gaveUp (c : Int) : Ending := .panicked [{ v := .iface 83 (.agg #[.int .i64 c]), recovered := false }]
/-- The reader in block rb: what hasn't been read yet lies in w0. -/
structure Rst (w0 W : World) (rb : Nat) (rest : List Int) : Prop where
  ex : ∃ A c, W.heap[rb]? = some (.cells #[.slice A rest.length c] 85 (0, 0)) ∧ rest.length ≤ c ∧ ReadsInt w0 .u8 A rest.length rest
  below : Below w0.heap.size w0 W
  at_ : w0.heap.size ≤ rb
/-- What a reading function does: it answers and goes on, or gives up; of the elder blocks it writes the reader's alone. -/
structure Reads {α : Type} (w0 w : World) (rb : Nat) (r : Except Int (α × List Int)) (val : α → World → Value → Prop) (e : Ending) (w' : World) : Prop where
  keep : KeepBut w w' rb none
  below : Below w0.heap.size w0 w'
  ok : ∀ x rest', r = .ok (x, rest') → ∃ v, e = .returned v ∧ val x w' v ∧ Rst w0 w' rb rest'
  no : ∀ c, r = .error c → e = gaveUp c
set_option maxRecDepth 100000 in
theorem need_true (c : Int) (w : World) : Calls Tryd.prog 66 #[.bool true, .int .i64 c] w fun e w' => e = .returned (.tuple #[]) ∧ w' = w := by
  go_enter Tryd.func66, Tryd.ntmps66
  go_wp2
  go_end0
  all_goals exact ⟨rfl, rfl⟩
set_option maxRecDepth 100000 in
theorem need_false (c : Int) (w : World) : Calls Tryd.prog 66 #[.bool false, .int .i64 c] w fun e w' => e = gaveUp c ∧ w' = w := by
  have hu83 := Tryd.underlying83
  go_enter Tryd.func66, Tryd.ntmps66
  go_wp2
  exact ⟨rfl, rfl, rfl⟩
/-- The bytes that were taken. -/
def ValB (w0 : World) (x : List Int) (_ : World) (v : Value) : Prop := ∃ A c, v = .slice A x.length c ∧ ReadsInt w0 .u8 A x.length x
theorem Rst.len {w0 W : World} {rb : Nat} {rest : List Int} (h : Rst w0 W rb rest) : rest.length ≤ 9223372036854775807 := by
  obtain ⟨A, c, _, _, hr⟩ := h.ex
  exact hr.2.1
theorem Rst.lt {w0 W : World} {rb : Nat} {rest : List Int} (h : Rst w0 W rb rest) : rb < W.heap.size := by
  obtain ⟨A, c, hb, _, hr⟩ := h.ex
  exact blk_lt hb
set_option maxHeartbeats 4000000 in
set_option maxRecDepth 100000 in
theorem take_calls (w0 w : World) (rb : Nat) (rest : List Int) (n : Nat) (hn : n ≤ 4611686018427387904) (h : Rst w0 w rb rest) :
    Calls Tryd.prog 68 #[.pointer (some ⟨rb, 0, none⟩), .int .i64 n] w (Reads w0 w rb (takeR n rest) (ValB w0)) := by
  have hu27 := Tryd.underlying27
  have hu85 := Tryd.underlying85
  have HLN := Aside0.mk h.len
  have HLT := Aside0.mk h.lt
  have HAT := Aside0.mk h.at_
  have HBL := Aside0.mk h.below
  obtain ⟨A, c, hb, hc, hr⟩ := h.ex
  have HBK := Aside0.mk hb
  have HC := Aside0.mk hc
  have HR := Aside0.mk hr
  have p0 := (blk_cell HBK.out 0).trans rfl
  have f0 := blk_frozen HBK.out 0
  clear h hb hc hr
  by_cases hlt : n ≤ rest.length
  · obtain ⟨i0, hi, hsz⟩ := Option.map_eq_some_iff.1 info5
    simp only [Prod.mk.injEq] at hsz
    obtain ⟨A1, hcut, hA1⟩ := print_cut (P := Tryd.prog) 27 5 .i64 hu27 hi hsz.2.1 A rest.length c n hlt
    have HA1 := Aside0.mk (hA1 w0 .u8 rest HC.out HR.out)
    have hd : decide ((n : Int) ≤ (rest.length : Int)) = true := decide_eq_true (by omega)
    have hd2 : decide (n ≤ rest.length) = true := decide_eq_true hlt
    have HLE := Aside0.mk hlt
    have er : takeR n rest = .ok (rest.take n, rest.drop n) := by unfold takeR; rw [if_pos hlt]
    rw [er]
    have i1 : (0 : Int) ≤ (n : Int) := by omega
    have i2 : (n : Int) ≤ (rest.length : Int) := by omega
    have i3 : (n : Int) ≤ (c : Int) := by have := HC.out; omega
    clear hA1 hlt er hsz hi
    go_enter Tryd.func68, Tryd.ntmps68
    go_wp2_with (first
      | (go_at_call 66; (with_reducible refine (need_true 61 _).mono ?_); rintro e w1 ⟨rfl, rfl⟩))
    go_ret
    refine ⟨KeepBut.set_ (KeepBut.refl _ _ _) 0 _, HBL.out.setCell HAT.out _, fun x rest' hx => ?_, fun c hx => by cases hx⟩
    injection hx with hx
    injection hx with hx1 hx2
    subst hx1 hx2
    have e1 : (rest.take n).length = n := by rw [List.length_take]; have := HLE.out; omega
    have e2 : (rest.drop n).length = rest.length - n := List.length_drop
    refine ⟨.slice A n c, rfl, ⟨A, c, by rw [e1], by rw [e1]; exact ReadsInt.take_ HR.out n HLE.out⟩, ⟨A1, c - n, ?_, ?_, ?_⟩, HBL.out.setCell HAT.out _, HAT.out⟩
    · rw [e2]; exact blk_put HBK.out 0 _ rfl
    · rw [e2]; have := HC.out; omega
    · rw [e2]; exact HA1.out
  · have hd : decide ((n : Int) ≤ (rest.length : Int)) = false := decide_eq_false (by omega)
    have hd2 : decide (n ≤ rest.length) = false := decide_eq_false hlt
    have er : takeR n rest = .error 61 := by unfold takeR; rw [if_neg hlt]
    rw [er]
    clear hlt er
    go_enter Tryd.func68, Tryd.ntmps68
    go_wp2_with (first
      | (go_at_call 66; (with_reducible refine (need_false 61 _).mono ?_); rintro e w1 ⟨rfl, rfl⟩))
    refine ⟨rfl, KeepBut.refl _ _ _, HBL.out, fun x rest' hx => (by cases hx), fun c hx => ?_⟩
    injection hx with hx
    rw [← hx]
/-- A whole number that was read. -/
def ValI (k : IntKind) (x : Int) (_ : World) (v : Value) : Prop := v = .int k x
theorem numOf_snoc (l : List Int) (c : Int) : numOf (l ++ [c]) = numOf l * 256 + c := by simp [numOf]
theorem numOf_range : ∀ (l : List Int), (∀ c ∈ l, 0 ≤ c ∧ c ≤ 255) → 0 ≤ numOf l ∧ numOf l < 256 ^ l.length := by
  intro l
  suffices h : ∀ r : List Int, (∀ c ∈ r, 0 ≤ c ∧ c ≤ 255) → 0 ≤ numOf r.reverse ∧ numOf r.reverse < 256 ^ r.length by
    intro hl
    have := h l.reverse (by simpa using hl)
    simpa using this
  intro r
  induction r with
  | nil => intro _; simp [numOf]
  | cons c r ih =>
    intro hr
    have h1 := ih (fun x hx => hr x (by simp [hx]))
    have h2 := hr c (by simp)
    rw [List.reverse_cons, numOf_snoc, List.length_cons, Int.pow_succ]
    omega
theorem or_byte (v x : Int) (h0 : 0 ≤ v) (h1 : v < 72057594037927936) (x0 : 0 ≤ x) (x1 : x ≤ 255) : bits BinOp.or IntKind.u64 (IntKind.u64.wrap (v * 256)) (IntKind.u64.wrap x) = v * 256 + x := by
  have e1 : IntKind.u64.wrap (v * 256) = v * 256 := by have := u64_eq (v * 256); unfold u64 at this; rw [this]; omega
  have e2 : IntKind.u64.wrap x = x := by have := u64_eq x; unfold u64 at this; rw [this]; omega
  rw [e1, e2]
  exact bits_join .u64 64 (by decide) wraps_u64 8 (v * 256) x (by omega) (by omega) (by omega) x0 (by omega) (by omega)
/-- The bytes that are read are bytes. -/
def isBytes (l : List Int) : Prop := ∀ c ∈ l, 0 ≤ c ∧ c ≤ 255
set_option maxHeartbeats 4000000 in
set_option maxRecDepth 100000 in
theorem number_calls (w0 w : World) (rb : Nat) (rest : List Int) (n : Nat) (hn : n ≤ 8) (hby : isBytes rest) (h : Rst w0 w rb rest) :
    Calls Tryd.prog 96 #[.pointer (some ⟨rb, 0, none⟩), .int .i64 n] w (Reads w0 w rb (numR n rest) (ValI .u64)) := by
  have HT := Aside0.mk (take_calls w0 w rb rest n (by omega) h)
  have HBL := Aside0.mk h.below
  have HAT := Aside0.mk h.at_
  by_cases hlt : n ≤ rest.length
  · have er : takeR n rest = .ok (rest.take n, rest.drop n) := by unfold takeR; rw [if_pos hlt]
    have er2 : numR n rest = .ok (numOf (rest.take n), rest.drop n) := by unfold numR Rd.then; rw [er]; rfl
    rw [er2]
    have HT' := Aside0.mk (show Calls Tryd.prog 68 #[.pointer (some ⟨rb, 0, none⟩), .int .i64 n] w (fun e w' => ∃ A c, e = .returned (.slice A n c) ∧ ReadsInt w0 .u8 A n (rest.take n) ∧ Rst w0 w' rb (rest.drop n) ∧ KeepBut w w' rb none) from HT.out.mono (fun e w' hr => by
      obtain ⟨v, rfl, ⟨A, c, rfl, hA⟩, hs⟩ := hr.ok _ _ er
      have e1 : (rest.take n).length = n := by rw [List.length_take]; omega
      rw [e1] at hA ⊢
      exact ⟨A, c, rfl, hA, hs, hr.keep⟩))
    have HBY := Aside0.mk (show isBytes (rest.take n) from fun c hc => hby c (List.mem_of_mem_take hc))
    have HE1 := Aside0.mk (show (rest.take n).length = n by rw [List.length_take]; omega)
    obtain ⟨bs, hbs⟩ : ∃ bs, rest.take n = bs := ⟨_, rfl⟩
    rw [hbs] at HT' HBY HE1 ⊢
    have HN := Aside0.mk hn
    clear h hlt er er2 HT hby hbs hn
    go_enter Tryd.func96, Tryd.ntmps96
    go_wp2_with (first
      | (go_at_call 68; (with_reducible refine HT'.out.mono ?_); rintro e w1 ⟨A, c, rfl, hA, hs, hk⟩; have HA := Aside0.mk hA; have HS := Aside0.mk hs; have HK := Aside0.mk hk; clear hA hs hk))
    go_loopg [5, 12] n (fun gg s5 s12 wr => ∃ i : Int, Aside0 (0 ≤ i ∧ i ≤ (n : Int) ∧ (n : Int) - i ≤ (gg : Int)) ∧ s12 = .int .i64 i ∧ s5 = .int .u64 (numOf (bs.take i.toNat)) ∧ Aside0 (wr = w1))
    case atStart => exact ⟨0, ⟨by omega, by omega, by omega⟩, rfl, rfl, ⟨rfl⟩⟩
    case round =>
      obtain ⟨i, HI, rfl, rfl, HW⟩ := hrel
      obtain rfl := HW.out
      by_cases hlt : i < (n : Int)
      · have hltb : decide (i < (n : Int)) = true := decide_eq_true hlt
        have hpos : 0 ≤ i := HI.out.1
        have HLT := Aside0.mk (show i.toNat < bs.length by have := HE1.out; omega)
        have HPOS := Aside0.mk hpos
        obtain ⟨ad, e0, h0⟩ := (HA.out.below HS.out.below).at_ i hpos hlt
        cases e0
        obtain ⟨x, hx⟩ : ∃ x, rd bs i = x := ⟨_, rfl⟩
        rw [hx] at h0
        have HX := Aside0.mk (show bs[i.toNat]'HLT.out = x by rw [← hx]; simp [rd, List.getD_eq_getElem?_getD, List.getElem?_eq_getElem HLT.out])
        obtain ⟨v, hv⟩ : ∃ v, numOf (bs.take i.toNat) = v := ⟨_, rfl⟩
        have HVV := Aside0.mk hv
        rw [hv]
        have hwr : wrap64 (i + 1) = i + 1 := by have := HN.out; simp only [wrap64]; omega
        have hlt' := eq_true hlt
        have hpos' := eq_true hpos
        clear hlt hpos hx hv
        go_wp2
        have HV := Aside0.mk (show bits BinOp.or IntKind.u64 (IntKind.u64.wrap (v * 256)) (IntKind.u64.wrap x) = numOf (bs.take (i + 1).toNat) by
          have e : (i + 1).toNat = i.toNat + 1 := by have := HPOS.out; omega
          have r1 := numOf_range (bs.take i.toNat) (fun c hc => HBY.out c (List.mem_of_mem_take hc))
          have r2 := HBY.out x (by rw [← HX.out]; exact List.getElem_mem _)
          have hle : (bs.take i.toNat).length ≤ 7 := by have := HLT.out; have := HE1.out; have := HN.out; rw [List.length_take]; omega
          have hp : (256 : Int) ^ (bs.take i.toNat).length ≤ 72057594037927936 := by
            have h := Int.ofNat_le.2 (Nat.pow_le_pow_right (n := 256) (by omega) hle)
            rw [Int.natCast_pow] at h
            exact h
          rw [HVV.out] at r1
          rw [or_byte v x r1.1 (by omega) r2.1 r2.2, e, List.take_succ_eq_append_getElem HLT.out, numOf_snoc, HX.out, HVV.out])
        go_roundg (n - (i.toNat + 1))
        case measure => have := HI.out; have := HLT.out; have := HE1.out; omega
        case rel =>
          refine ⟨i + 1, ⟨by have := HPOS.out; omega, by have := HLT.out; have := HE1.out; omega, by have := HLT.out; have := HPOS.out; have := HE1.out; omega⟩, by first | rfl | (simp [hwr]; done) | go_num, by rw [HV.out], ⟨rfl⟩⟩
      · have hltb : decide (i < (n : Int)) = false := decide_eq_false hlt
        have HN2 := Aside0.mk hlt
        have HEND := Aside0.mk (show numOf (bs.take i.toNat) = numOf bs by rw [List.take_of_length_le (by have := HE1.out; omega)])
        clear hlt
        go_wp2
        go_ret
        refine ⟨HK.out, HS.out.below, fun x rest' hx => ?_, fun c hx => by cases hx⟩
        injection hx with hx
        injection hx with hx1 hx2
        subst hx1 hx2
        exact ⟨_, rfl, by rw [← HEND.out]; rfl, HS.out⟩
  · have er : takeR n rest = .error 61 := by unfold takeR; rw [if_neg hlt]
    have er2 : numR n rest = .error 61 := by unfold numR Rd.then; rw [er]
    rw [er2]
    have HT' := Aside0.mk (show Calls Tryd.prog 68 #[.pointer (some ⟨rb, 0, none⟩), .int .i64 n] w (fun e w' => e = gaveUp 61 ∧ KeepBut w w' rb none ∧ Below w0.heap.size w0 w') from HT.out.mono (fun e w' hr => ⟨hr.no _ er, hr.keep, hr.below⟩))
    clear h hlt er er2 HT hby hn
    go_enter Tryd.func96, Tryd.ntmps96
    go_wp2_with (first
      | (go_at_call 68; (with_reducible refine HT'.out.mono ?_); rintro e w1 ⟨rfl, hk, hb⟩; have HK := Aside0.mk hk; have HB1 := Aside0.mk hb; clear hk hb))
    refine ⟨rfl, HK.out, HB1.out, fun x rest' hx => (by cases hx), fun c hx => ?_⟩
    injection hx with hx
    rw [← hx]
end Go.Proofs.YtdplpcedfkfajaaDoor.T
/- The frames of the codec's laws: arguments opened (an atom, bytes), what the row lists read off, the arguments handed back, the bound. -/
set_option linter.unusedVariables false
set_option linter.unusedSimpArgs false
namespace Go.Proofs.YtdplpcedfkfajaaDoor.T
open Go.ChangeShapes Go.WideShapes Go.ChangeAt Go.RowKit Go.Deep Go.Proofs.YtdplpcedfkfajaaDoorW.PrintWords
theorem cI : Tryd.prog.cellsOf 3 = 1 := by kernel_rfl
theorem cS : Tryd.prog.cellsOf 9 = 1 := by kernel_rfl
theorem cT : Tryd.prog.cellsOf 23 = 3 := by kernel_rfl
theorem cU : Tryd.prog.cellsOf 5 = 1 := by kernel_rfl
section
variable {H : Type} {enc : TypeId × Value → H}
def dT (t : Tm) : DataW H := .agg [.lit (.int .i64 t.f0), .lit (.int .i64 t.f1), .lit (.string t.f2.data.toList)]
theorem wf_inI {x : Int} (h : (Lit.int .i64 x).wf = true) : inI x = true := by
  simp [Lit.wf, IntKind.min, IntKind.max, IntKind.bits, IntKind.signed] at h
  simp [inI]
  omega
set_option maxRecDepth 100000 in
theorem open_T {W : World} {base : Nat} {sp : Nat → Bool} {held : Bool} {fuel : Nat} {cs : List Value} {x : DataW H × List MemPlace} (h : DataW.trod enc Tryd.prog W base sp held fuel 23 cs = some x) :
    ∃ t : Tm, cs = [.int .i64 t.f0, .int .i64 t.f1, .string t.f2] ∧ x = (dT t, []) ∧ okT t = true := by
  obtain ⟨y0, y1, y2, k, rfl, hl, u0, u1, u2⟩ := trod_struct3 Tryd.underlying23 h
  have hl3 : cs.length = 3 := by rw [hl, cT]
  match cs, hl3 with
  | [v0, v1, v2], _ =>
    simp only [cI, cS, List.drop, List.take] at u0 u1 u2
    obtain ⟨a, e0, rfl, w0⟩ := DataW.trod_int Tryd.underlying3 u0
    obtain ⟨b, e1, rfl, w1⟩ := DataW.trod_int Tryd.underlying3 u1
    obtain ⟨s, e2, rfl, w2⟩ := DataW.trod_string Tryd.underlying9 u2
    simp only [List.cons.injEq, and_true] at e0 e1 e2
    subst e0; subst e1; subst e2
    refine ⟨⟨a, b, s⟩, rfl, rfl, ?_⟩
    simp only [okT, Bool.and_eq_true, decide_eq_true_eq]
    exact ⟨wf_inI w0, wf_inI w1, by simpa [maxLen] using w2⟩
/-- What is read as before, behind the call. -/
theorem trodAll_below {P : Program} (hl : laidOutB P = true) {W W' : World} (hb : Below W.heap.size W W') : ∀ {ts : List TypeId} {vs : List Value} {ds : List (DataW H)} {ps : List MemPlace},
    (∀ t ∈ ts, P.readableRec t = true ∧ t < P.types.size) → DataW.TrodAll enc P W 0 (fun _ => true) true ts vs ds ps → (∀ x ∈ ps, x.block < W.heap.size) → DataW.TrodAll enc P W' 0 (fun b => decide (b < W.heap.size)) true ts vs ds ps
  | [], [], [], ps, _, h, _ => h
  | t :: ts, v :: vs, d :: ds, ps, hr, h, hlt => by
    obtain ⟨p, q, h1, h2, rfl⟩ := h
    exact ⟨p, q, h1.elim fun n hn => Below.trod hl (hr t (.head _)).1 (hr t (.head _)).2 ⟨n, hn⟩ hb (fun x hx => hlt x (List.mem_append_left _ hx)), trodAll_below hl hb (fun t ht => hr t (.tail _ ht)) h2 (fun x hx => hlt x (List.mem_append_right _ hx)), rfl⟩
  | [], _ :: _, _, _, _, h, _ => h.elim
  | [], [], _ :: _, _, _, h, _ => h.elim
  | _ :: _, [], _, _, _, h, _ => h.elim
  | _ :: _, _ :: _, [], _, _, h, _ => h.elim
/-- The post of a law that answers true and leaves what was there. -/
theorem post_true {P : Program} {f : Func} {s : ChangeSpec} {tb : TypeId} (hl : laidOutB P = true) (hr : ∀ t ∈ f.params.toList, P.readableRec t = true ∧ t < P.types.size) (hv : s.vars = []) (hrt : f.resultTypes = #[tb]) (hu : P.underlying tb = some .bool)
    {W W' : World} {args : Array Value} {ds gs : List (DataW H)} {before : List MemPlace} (hW : DataW.Whole enc P f.params.toList s.vars false W args.toList ds gs before)
    (hfn : s.fn H (ds ++ gs) = { results := [.lit (.bool true)], args := ds }) (hb : Below W.heap.size W W') : s.post enc P f false true false false W args (.bool true) W' := by
  have hW0 := hW
  have hlt := hW.lt
  obtain ⟨p, q, hA, hV, rfl, hfz, hnd⟩ := hW
  rw [hv] at hV
  obtain ⟨rfl, rfl⟩ := trodVars_none hV
  refine ⟨ds, [], p ++ [], [], p, [], hW0, ?_, ?_, ?_, hb.frame _, fun h => by cases h⟩
  · rw [hfn, hrt]
    exact trodAll_mk1 (shut_bool hu _)
  · rw [hfn]
    exact trodAll_below hl hb hr hA (fun x hx => hlt x (List.mem_append_left _ hx))
  · rw [hfn, hv]
    exact rfl
theorem add_add' (a : Addr) (m n : Nat) : (a.add m).add n = a.add (m + n) := by
  unfold Addr.add
  by_cases hm : m = 0
  · subst hm; simp
  · by_cases hn : n = 0
    · subst hn; simp [hm]
    · simp [hm, hn, Nat.add_assoc]
set_option maxRecDepth 100000 in
/-- A slice of such elements, as the walks read it. -/
theorem open_list {α : Type} {W : World} {base : Nat} {sp : Nat → Bool} {held : Bool} {fuel : Nat} {t e : TypeId} {sz : Nat} {cs : List Value} {x : DataW H × List MemPlace} (d : Kd α) (encL : α → List Value) (dat : α → DataW H) (ok : α → Bool)
    (hopen : ∀ (fuel : Nat) (cs : List Value) (y : DataW H × List MemPlace), DataW.trod enc Tryd.prog W base sp held fuel e cs = some y → ∃ b : α, cs = encL b ∧ y.1 = dat b ∧ ok b = true)
    (hsz : Tryd.prog.cellsOf e = sz) (hd : d.sz = sz) (hK : ∀ b, d.K W b (encL b)) (ht : Tryd.prog.underlying t = some (.slice e)) (h : DataW.trod enc Tryd.prog W base sp held fuel t cs = some x) :
    ∃ (A : Option Addr) (c : Nat) (l : List α), cs = [.slice A l.length c] ∧ l.length ≤ c ∧ d.C W A l.length l ∧ l.all ok = true ∧ ((x.1 = .nil ∧ l = []) ∨ ∃ r, x.1 = .slice (l.map dat) r) := by
  rcases open_slice ht h with ⟨rfl, rfl⟩ | ⟨a, len, cap, m, n, D, Pl, rfl, hb, hl, hm, hmm, rfl, hx⟩
  · exact ⟨none, 0, [], rfl, Nat.le_refl _, ⟨rfl, by simp, fun h => by simp at h⟩, rfl, .inl ⟨rfl, rfl⟩⟩
  · have hlm : len ≤ m := by rw [hmm]; split <;> omega
    have each : ∀ i, i < len → ∃ b : α, (∀ (j : Nat) (u : Value), (encL b)[j]? = some u → W.cell? (a.add (i * sz + j)) = some u) ∧ D i = dat b ∧ ok b = true := by
      intro i hi
      obtain ⟨cs', h1, h2⟩ := hx i (by omega)
      obtain ⟨b, rfl, hdb, hob⟩ := hopen _ _ _ h2
      rw [hsz] at h1
      obtain ⟨_, hlen, hcell⟩ := World.cells?_some h1
      refine ⟨b, fun j u hu => ?_, hdb, hob⟩
      have hj : j < sz := by rw [← hlen]; exact (List.getElem?_eq_some_iff.1 hu).1
      have := hcell j hj
      rw [add_add'] at this
      rw [this, hu]
    rcases Nat.eq_zero_or_pos len with h0 | h0
    · subst h0
      exact ⟨some a, cap, [], rfl, Nat.zero_le _, ⟨rfl, by simp, fun h => by simp at h⟩, rfl, .inr ⟨_, rfl⟩⟩
    · obtain ⟨b0, _⟩ := each 0 h0
      letI : Inhabited α := ⟨b0⟩
      obtain ⟨B, hB⟩ := choose_lt each
      have hlen : ((List.range len).map B).length = len := by simp
      refine ⟨some a, cap, (List.range len).map B, by rw [hlen], by rw [hlen]; exact hl, ⟨rfl, by rw [hlen]; simp [maxLen] at hm; omega, fun _ => ⟨a, rfl, fun j p hj => ?_⟩⟩, ?_, .inr ⟨(List.range (m - len)).map fun j => D (len + j), ?_⟩⟩
      · obtain ⟨hj1, hj2⟩ := List.getElem?_eq_some_iff.1 hj
        simp only [List.getElem_map, List.getElem_range] at hj2
        rw [hlen] at hj1
        subst hj2
        exact ⟨encL (B j), d.K_len (hK _), hK _, by rw [hd]; exact (hB j hj1).1⟩
      · rw [List.all_eq_true]
        intro b hb
        obtain ⟨i, hi, rfl⟩ := List.mem_map.1 hb
        exact (hB i (List.mem_range.1 hi)).2.2
      · rw [List.map_map, List.map_congr_left (fun i hi => (hB i (List.mem_range.1 hi)).2.1)]
        rfl
def cellsTm (t : Tm) : List Value := [.int .i64 t.f0, .int .i64 t.f1, .string t.f2]
theorem open_Ts {W : World} {base : Nat} {sp : Nat → Bool} {held : Bool} {fuel : Nat} {cs : List Value} {x : DataW H × List MemPlace} (h : DataW.trod enc Tryd.prog W base sp held fuel 24 cs = some x) :
    ∃ (A : Option Addr) (c : Nat) (l : List Tm), cs = [.slice A l.length c] ∧ l.length ≤ c ∧ Kd.C k23 W A l.length l ∧ l.all okT = true ∧ ((x.1 = .nil ∧ l = []) ∨ ∃ r, x.1 = .slice (l.map dT) r) :=
  open_list k23 cellsTm dT okT (fun _ _ _ h => by obtain ⟨t, e, hx, ho⟩ := open_T h; exact ⟨t, e, by rw [hx], ho⟩) cT rfl (fun b => k23_mk W b) Tryd.underlying24 h
/-- What an atom reads as: its qualifier, its name, its arguments. -/
def isA (d : DataW H) (t : Tm) (nm : ByteArray) (l : List Tm) : Prop := ∃ dl, d = .agg [dT t, .lit (.string nm.data.toList), dl] ∧ ((dl = .nil ∧ l = []) ∨ ∃ r, dl = .slice (l.map dT) r)
set_option maxRecDepth 100000 in
theorem arg_A {W : World} {base b0 : Nat} {sp : Nat → Bool} {held : Bool} {r : Reach} {v : Value} {d : DataW H} {ps : List MemPlace} (hval : Value.okWide Tryd.prog W r b0 26 v) (h : DataW.Trod enc Tryd.prog W base sp held 26 v d ps) :
    ∃ (t : Tm) (nm : ByteArray) (A : Option Addr) (c : Nat) (l : List Tm), v = .agg #[.int .i64 t.f0, .int .i64 t.f1, .string t.f2, .string nm, .slice A l.length c] ∧ l.length ≤ c ∧ Kd.C k23 W A l.length l ∧ okT t = true ∧ l.all okT = true ∧ isA d t nm l := by
  obtain ⟨cs, rfl, hcs⟩ := okWide_struct Tryd.underlying26 hval
  obtain ⟨fuel, h⟩ := h
  have h := (show DataW.trod enc Tryd.prog W base sp held fuel 26 cs.toList = some (d, ps) by simpa [Value.cells] using h)
  obtain ⟨y0, y1, y2, k, hx, hl, u0, u1, u2⟩ := trod_struct3 Tryd.underlying26 h
  have hl5 : cs.toList.length = 5 := by rw [hl]; kernel_rfl
  obtain ⟨cl⟩ := cs
  match cl, hl5 with
  | [v0, v1, v2, v3, v4], _ =>
    simp only [cT, cS, (show Tryd.prog.cellsOf 24 = 1 by kernel_rfl), List.drop, List.take] at u0 u1 u2
    obtain ⟨t, e0, rfl, ot⟩ := open_T u0
    obtain ⟨nm, e1, rfl, w1⟩ := DataW.trod_string Tryd.underlying9 u1
    obtain ⟨A, c, l, e2, hlc, hC, hok, hd⟩ := open_Ts u2
    simp only [List.cons.injEq, and_true] at e0 e1 e2
    obtain ⟨rfl, rfl, rfl⟩ := e0
    subst e1 e2
    injection hx with hx _
    exact ⟨t, nm, A, c, l, rfl, hlc, hC, ot, hok, y2.1, hx, hd⟩
/-- Bytes, as the walks read them. -/
def isBy (d : DataW H) (l : List Int) : Prop := (d = .nil ∧ l = []) ∨ ∃ r, d = .slice (l.map fun b => .lit (.int .u8 b)) r
theorem wf_byte {x : Int} (h : (Lit.int .u8 x).wf = true) : (decide (0 ≤ x) && decide (x ≤ 255)) = true := by
  simp [Lit.wf, IntKind.min, IntKind.max, IntKind.bits, IntKind.signed] at h
  simp
  omega
set_option maxRecDepth 100000 in
theorem arg_By {W : World} {base b0 : Nat} {sp : Nat → Bool} {held : Bool} {r : Reach} {v : Value} {d : DataW H} {ps : List MemPlace} (hval : Value.okWide Tryd.prog W r b0 27 v) (h : DataW.Trod enc Tryd.prog W base sp held 27 v d ps) :
    ∃ (A : Option Addr) (c : Nat) (l : List Int), v = .slice A l.length c ∧ l.length ≤ c ∧ ReadsInt W .u8 A l.length l ∧ isBytes l ∧ isBy d l := by
  obtain ⟨A0, n0, c0, rfl⟩ := okWide_slice Tryd.underlying27 hval
  obtain ⟨fuel, h⟩ := h
  obtain ⟨A, c, l, e, hlc, hC, hok, hd⟩ := open_list (Kd.int .u8) (fun b => [.int .u8 b]) (fun b => .lit (.int .u8 b)) (fun b => decide (0 ≤ b) && decide (b ≤ 255))
    (fun _ _ _ h => by obtain ⟨a, e0, rfl, w0⟩ := DataW.trod_int Tryd.underlying5 h; exact ⟨a, e0, rfl, wf_byte w0⟩) cU rfl (fun b => by first | rfl | simp [Kd.int, Kd.scalar]) Tryd.underlying27 (show DataW.trod enc Tryd.prog W base sp held fuel 27 [.slice A0 n0 c0] = some (d, ps) by simpa [Value.cells] using h)
  simp only [List.cons.injEq, and_true] at e
  rw [e]
  refine ⟨A, c, l, rfl, hlc, readsInt_of.2 (Kd.reads_of_C (enc := Value.int .u8) (d := (0 : Int)) (h1 := fun _ => rfl) hC), ?_, hd⟩
  intro x hx
  have := List.all_eq_true.1 hok x hx
  simpa using this
theorem bulk_list {α : Type} (dat : α → DataW H) (hd : ∀ x, 1 ≤ Rows.uptoBulk (dat x)) : ∀ l : List α, l.length ≤ Rows.uptoBulkAll (l.map dat)
  | [] => by simp
  | a :: r => by
    have := bulk_list dat hd r
    have := hd a
    simp only [List.map_cons, Rows.uptoBulkAll, List.length_cons]
    omega
theorem bulk_A {d : DataW H} {t : Tm} {nm : ByteArray} {l : List Tm} (h : isA d t nm l) : l.length ≤ Rows.uptoBulk d := by
  obtain ⟨dl, rfl, h⟩ := h
  have h2 : l.length ≤ Rows.uptoBulk dl := by
    rcases h with ⟨_, rfl⟩ | ⟨r, rfl⟩
    · simp
    · have := bulk_list (H := H) dT (fun x => by simp [dT, Rows.uptoBulk]) l
      simp only [Rows.uptoBulk]
      omega
  simp only [Rows.uptoBulk, Rows.uptoBulkAll]
  omega
theorem bulk_By {d : DataW H} {l : List Int} (h : isBy d l) : l.length ≤ Rows.uptoBulk d := by
  rcases h with ⟨_, rfl⟩ | ⟨r, rfl⟩
  · simp
  · have := bulk_list (H := H) (fun b : Int => .lit (.int .u8 b)) (fun x => by simp [Rows.uptoBulk]) l
    simp only [Rows.uptoBulk]
    omega
theorem size_A {d : DataW H} {t : Tm} {nm : ByteArray} {l : List Tm} (h : isA d t nm l) : nm.size ≤ Rows.uptoBulk d := by
  obtain ⟨dl, rfl, h⟩ := h
  have e : nm.size = nm.data.toList.length := rfl
  simp only [Rows.uptoBulk, Rows.uptoBulkAll]
  omega
theorem cost_T (t : Tm) : costT t ≤ 16 * Rows.uptoBulk (dT (H := H) t) := by
  have e : t.f2.size = t.f2.data.toList.length := rfl
  simp only [dT, costT, Rows.uptoBulk, Rows.uptoBulkAll]
  omega
theorem cost_list : ∀ l : List Tm, costs l ≤ 16 * Rows.uptoBulkAll (l.map (dT (H := H)))
  | [] => by simp [costs]
  | t :: r => by
    have h1 := cost_list r
    have h2 := cost_T (H := H) t
    have h3 : costs (t :: r) = costT t + costs r := by simp [costs]
    simp only [List.map_cons, Rows.uptoBulkAll]
    omega
theorem cost_A {d : DataW H} {t : Tm} {nm : ByteArray} {l : List Tm} (h : isA d t nm l) : costA t nm l ≤ 16 * Rows.uptoBulk d + 4 := by
  obtain ⟨dl, rfl, h⟩ := h
  have e : nm.size = nm.data.toList.length := rfl
  have h1 := cost_T (H := H) t
  have h2 : costs l ≤ 16 * Rows.uptoBulk dl := by
    rcases h with ⟨_, rfl⟩ | ⟨r, rfl⟩
    · simp [costs]
    · have := cost_list (H := H) l
      simp only [Rows.uptoBulk]
      omega
  simp only [costA, Rows.uptoBulk, Rows.uptoBulkAll]
  omega
end
theorem gNone : Tryd.prog.globalNamed "hearsay/term.none" = some 2 := by kernel_rfl
theorem gNoneT : (Tryd.prog.globals[2]?).map (·.type) = some 23 := by kernel_rfl
theorem laid_at {W : World} : ∀ {l : List (String × DataW Unit)} {ps : List MemPlace}, DataW.LaidVars Tryd.prog W l ps → ∀ {n : String} {d : DataW Unit}, (n, d) ∈ l →
    ∃ g t cs fuel p, Tryd.prog.globalNamed n = some g ∧ (Tryd.prog.globals[g]?).map (·.type) = some t ∧ W.var? Tryd.prog n = some cs ∧ DataW.trod (fun _ => ()) Tryd.prog W 0 (fun _ => true) false fuel t cs.toList = some (d, p)
  | [], _, _, _, _, h => by simp at h
  | (n0, d0) :: r, ps, hl, n, d, h => by
    obtain ⟨g, t, cs, fuel, p, q, hg, ht, hv, hd, hr, _⟩ := hl
    rcases List.mem_cons.1 h with h | h
    · injection h with h1 h2
      subst h1 h2
      exact ⟨g, t, cs, fuel, p, hg, ht, hv, hd⟩
    · exact laid_at hr h
theorem ba_of_list {s : ByteArray} {l : List UInt8} (h : l = s.data.toList) : s = ⟨⟨l⟩⟩ := by
  cases s with
  | mk d => simp only at h; rw [h]
theorem none_at {W : World} {l : List (String × DataW Unit)} {ps : List MemPlace} (hl : DataW.LaidVars Tryd.prog W l ps) (hm : ("hearsay/term.none", Rows.laid_hearsay_term_none) ∈ l) : Laid2 W := by
  obtain ⟨g, t, cs, fuel, p, hg, ht, hvar, hd⟩ := laid_at hl hm
  obtain rfl := Option.some.inj (gNone.symm.trans hg)
  obtain rfl := Option.some.inj (gNoneT.symm.trans ht)
  obtain ⟨t0, e, hx, _⟩ := open_T hd
  injection hx with h1 _
  have h2 : Rows.laid_hearsay_term_none = dT (H := Unit) ⟨0, 0, ⟨#[]⟩⟩ := rfl
  rw [h2] at h1
  simp only [dT, DataW.agg.injEq, List.cons.injEq, DataW.lit.injEq, Lit.int.injEq, Lit.string.injEq, and_true, true_and] at h1
  obtain ⟨e0, e1, e2⟩ := h1
  have c := fun i => World.var?_cell (cs := cs) gNone hvar i
  have e4 : cs = #[.int .i64 0, .int .i64 0, .string ⟨#[]⟩] := Array.toList_inj.1 (by rw [e, ← e0, ← e1, ba_of_list e2])
  subst e4
  exact ⟨c 0, c 1, c 2⟩
theorem gBehind : Tryd.prog.globalNamed "hearsay/hearsayref03.behindTerm" = some 1 := by kernel_rfl
theorem gBehindT : (Tryd.prog.globals[1]?).map (·.type) = some 23 := by kernel_rfl
theorem behind_at {W : World} {l : List (String × DataW Unit)} {ps : List MemPlace} (hl : DataW.LaidVars Tryd.prog W l ps) (hm : ("hearsay/hearsayref03.behindTerm", Rows.laid_hearsay_hearsayref03_behindTerm) ∈ l) : Laid1 W := by
  obtain ⟨g, t, cs, fuel, p, hg, ht, hvar, hd⟩ := laid_at hl hm
  obtain rfl := Option.some.inj (gBehind.symm.trans hg)
  obtain rfl := Option.some.inj (gBehindT.symm.trans ht)
  obtain ⟨t0, e, hx, _⟩ := open_T hd
  injection hx with h1 _
  have h2 : Rows.laid_hearsay_hearsayref03_behindTerm = dT (H := Unit) ⟨901, 902, ⟨#[98, 101, 104, 105, 110, 100]⟩⟩ := rfl
  rw [h2] at h1
  simp only [dT, DataW.agg.injEq, List.cons.injEq, DataW.lit.injEq, Lit.int.injEq, Lit.string.injEq, and_true, true_and] at h1
  obtain ⟨e0, e1, e2⟩ := h1
  have c := fun i => World.var?_cell (cs := cs) gBehind hvar i
  have e4 : cs = #[.int .i64 901, .int .i64 902, .string ⟨#[98, 101, 104, 105, 110, 100]⟩] := Array.toList_inj.1 (by rw [e, ← e0, ← e1, ba_of_list e2])
  subst e4
  exact ⟨c 0, c 1, c 2⟩
end Go.Proofs.YtdplpcedfkfajaaDoor.T
/- lend, lent: lists of their own with a mark in the room behind; still, kept: are they as they were. -/
set_option linter.unusedVariables false
set_option linter.unusedSimpArgs false
namespace Go.Proofs.YtdplpcedfkfajaaDoor.T
open Go.RowKit Go.Proofs.YtdplpcedfkfajaaDoorW.PrintWords Go.Proofs.YtdplpcedfkfajaaDoorW.PrintLast

theorem R_head {α : Type} {d : Kd α} {e : Nat} {w : World} {base : Nat} {ok : Nat → Prop} {v : Value} {l : List α} (h : d.R e w base ok v l) (hl : 0 < l.length) : ∃ g c, v = .slice (some ⟨g, 0, none⟩) l.length c ∧ l.length ≤ c ∧ base ≤ g := by
  obtain ⟨_, inner, ho, _⟩ := h
  rcases ho.2 with ⟨rfl, h0⟩ | ⟨g', cap, cur, rfl, hb, _, hc, _⟩
  · omega
  · exact ⟨g', cap, rfl, hc, hb⟩
theorem R_C' {α : Type} {d : Kd α} {e : Nat} {w : World} {base : Nat} {ok : Nat → Prop} {A : Option Addr} {n c : Nat} {xs : List α} (h : d.R e w base ok (.slice A n c) xs) : d.C w A xs.length xs := by
  obtain ⟨A', c', he, _, hC⟩ := Kd.R_reads h
  injection he with h1 _ _
  subst h1
  exact hC
theorem add0 (g n : Nat) : (⟨g, 0, none⟩ : Addr).add n = ⟨g, n, none⟩ := by
  unfold Addr.add
  split
  · rename_i h; rw [h]
  · simp
/-- What lies ahead of the mark. -/
theorem C_front {α : Type} {d : Kd α} {w : World} {A : Option Addr} {l : List α} {x : α} (h : d.C w A (l ++ [x]).length (l ++ [x])) : d.C w A l.length l := by
  obtain ⟨h1, h2, h3⟩ := h
  simp only [List.length_append, List.length_singleton] at h2 h3
  refine ⟨rfl, by omega, fun h => ?_⟩
  obtain ⟨ad, e, hc⟩ := h3 (by omega)
  exact ⟨ad, e, fun j p hj => hc j p (by rw [List.getElem?_append_left (List.getElem?_eq_some_iff.1 hj).1]; exact hj)⟩
theorem rd_at23 (s : List Tm) (i : Nat) (h : i < s.length) : rd_T23 s (i : Int) = s[i] := by
  unfold rd_T23; simp [List.getD, h]
theorem wrap_succ (n : Nat) (h : n < smallN) : wrap64 ((n : Int) + 1) = ((n + 1 : Nat) : Int) := by
  simp [smallN] at h; unfold wrap64; omega
theorem R_room {α : Type} {d : Kd α} {e : Nat} {w : World} {base : Nat} {ok : Nat → Prop} {g n c : Nat} {l : List α} (h : d.R e w base ok (.slice (some ⟨g, 0, none⟩) n c) l) (hl : 0 < l.length) : l.length ≤ c := by
  obtain ⟨g', c', e1, hc, _⟩ := R_head h hl
  injection e1 with _ _ e3
  rw [e3]; exact hc
theorem R_cap {α : Type} {d : Kd α} {e : Nat} {w : World} {base : Nat} {ok : Nat → Prop} {A : Option Addr} {n c : Nat} {l : List α} (h : d.R e w base ok (.slice A n c) l) : l.length ≤ c := by
  obtain ⟨A', c', he, hl, _⟩ := Kd.R_reads h
  injection he with _ _ e3
  rw [e3]; exact hl
end Go.Proofs.YtdplpcedfkfajaaDoor.T
-- By a program of this session (wip/tools/myprint.py), out of the translation.
namespace Go.Proofs.YtdplpcedfkfajaaDoor.T
open Go.RowKit Go.Proofs.YtdplpcedfkfajaaDoorW.PrintWords Go.Proofs.YtdplpcedfkfajaaDoorW.PrintLast Go.Proofs.YtdplpcedfkfajaaDoorW.PrintMore
attribute [local go_sem] max2_int min2_int max_two min_two max_three min_three max_four min_four   -- for this text's walks alone
set_option linter.unusedVariables false
set_option linter.unusedSimpArgs false

-- NOT PRINTED: function 25 (hearsayref03_LendTerms)

-- NOT PRINTED: function 6 (hearsayref03_LendAtom)

mutual
def term_name.j0 : Nat → ByteArray → Bool → Option (Bool)
  | 0, _, _ => none
  | k + 1, x0, x25 => if x25 = true then (some false) else (term_name.l0 k x0 (x0.size : Int) 0)
def term_name.l0 : Nat → ByteArray → Int → Int → Option (Bool)
  | 0, _, _, _ => none
  | k + 1, x0, x27, x28 => if x28 < x27 then (if 0 ≤ x28 then (if x28 < (x0.size : Int) then (if (bt x0 x28) ≥ 97 then (if (bt x0 x28) ≤ 122 then (term_name.l0 k x0 x27 (wrap64 (x28 + 1))) else (if (bt x0 x28) ≥ 65 then (if (bt x0 x28) ≤ 90 then (term_name.l0 k x0 x27 (wrap64 (x28 + 1))) else (if (bt x0 x28) ≥ 48 then (if (bt x0 x28) ≤ 57 then (term_name.l0 k x0 x27 (wrap64 (x28 + 1))) else (if ((bt x0 x28) = 95) then (term_name.l0 k x0 x27 (wrap64 (x28 + 1))) else (some false))) else (if ((bt x0 x28) = 95) then (term_name.l0 k x0 x27 (wrap64 (x28 + 1))) else (some false)))) else (if (bt x0 x28) ≥ 48 then (if (bt x0 x28) ≤ 57 then (term_name.l0 k x0 x27 (wrap64 (x28 + 1))) else (if ((bt x0 x28) = 95) then (term_name.l0 k x0 x27 (wrap64 (x28 + 1))) else (some false))) else (if ((bt x0 x28) = 95) then (term_name.l0 k x0 x27 (wrap64 (x28 + 1))) else (some false))))) else (if (bt x0 x28) ≥ 65 then (if (bt x0 x28) ≤ 90 then (term_name.l0 k x0 x27 (wrap64 (x28 + 1))) else (if (bt x0 x28) ≥ 48 then (if (bt x0 x28) ≤ 57 then (term_name.l0 k x0 x27 (wrap64 (x28 + 1))) else (if ((bt x0 x28) = 95) then (term_name.l0 k x0 x27 (wrap64 (x28 + 1))) else (some false))) else (if ((bt x0 x28) = 95) then (term_name.l0 k x0 x27 (wrap64 (x28 + 1))) else (some false)))) else (if (bt x0 x28) ≥ 48 then (if (bt x0 x28) ≤ 57 then (term_name.l0 k x0 x27 (wrap64 (x28 + 1))) else (if ((bt x0 x28) = 95) then (term_name.l0 k x0 x27 (wrap64 (x28 + 1))) else (some false))) else (if ((bt x0 x28) = 95) then (term_name.l0 k x0 x27 (wrap64 (x28 + 1))) else (some false))))) else (none)) else (none)) else (some true)
end
def term_name.f (k : Nat) (a0 : ByteArray) : Option (Bool) := if a0.toList = ([] : List UInt8) then (term_name.j0 k a0 true) else (if (a0.size : Int) > 32 then (term_name.j0 k a0 true) else (if a0.toList = ([115, 97, 121, 115] : List UInt8) then (term_name.j0 k a0 true) else (if 0 < (a0.size : Int) then (if (bt a0 0) < 97 then (term_name.j0 k a0 true) else (term_name.j0 k a0 (decide ((bt a0 0) > 122)))) else (none))))
set_option maxHeartbeats 8000000 in
set_option maxRecDepth 100000 in
theorem term_name.calls (k : Nat) (a0 : ByteArray) (r : Bool) (w : World) (h : term_name.f k a0 = some r) :
    Calls Tryd.prog 53 #[.string a0] w fun e w' => e = .returned (.bool r) ∧ Drawn0 w w' := by
  have H : (if a0.toList = ([] : List UInt8) then (term_name.j0 k a0 true) else (if (a0.size : Int) > 32 then (term_name.j0 k a0 true) else (if a0.toList = ([115, 97, 121, 115] : List UInt8) then (term_name.j0 k a0 true) else (if 0 < (a0.size : Int) then (if (bt a0 0) < 97 then (term_name.j0 k a0 true) else (term_name.j0 k a0 (decide ((bt a0 0) > 122)))) else (none))))) = some r := h
  clear h
  have HC2 := Aside0.mk H
  clear H
  go_enter Tryd.func53, Tryd.ntmps53
  go_upto_region 1 with (fail)
  go_cut [25] (fun v25 wc => ∃ (kq : Nat) (x25_1 : Bool), v25 = .bool x25_1 ∧ Aside0 (term_name.j0 kq a0 x25_1 = some r) ∧ Aside0 (kq ≤ k) ∧ Drawn0 w wc)
  case first =>
    have H := HC2.out
    clear HC2
    by_cases c3 : a0.toList = ([] : List UInt8)
    · rw [if_pos c3] at H
      have c3b0 : (a0.toList == ([] : List UInt8)) = true := beq_iff_eq.mpr c3
      have c3b1 : (a0.toList != ([] : List UInt8)) = false := bne_eq_false_iff_eq.mpr c3
      clear c3
      (first | rw [c3b0] | (simp only [i64_w, i32_w]; rw [c3b0]) | skip)
      have H' := Aside0.mk H
      clear H
      go_wp2
      go_meet
      case rel => exact ⟨_, (true), (by first | rfl | (simp; done) | (simp [*]; done)), H', ⟨by first | omega | exact Nat.le_refl _⟩, by repeat (first | exact Drawn0.refl _ | apply Drawn0.step)⟩
    · rw [if_neg c3] at H
      have c3b0 : (a0.toList == ([] : List UInt8)) = false := beq_eq_false_iff_ne.mpr c3
      have c3b1 : (a0.toList != ([] : List UInt8)) = true := bne_iff_ne.mpr c3
      (first | rw [c3b0] | (simp only [i64_w, i32_w]; rw [c3b0]) | skip)
      by_cases c4 : (a0.size : Int) > 32
      · rw [if_pos c4] at H
        have c4b0 : decide (32 < (a0.size : Int)) = true := decide_eq_true c4
        have c4b1 : decide (32 < a0.size) = true := decide_eq_true (by omega)
        clear c4
        have H' := Aside0.mk H
        clear H
        go_wp2
        go_meet
        case rel => exact ⟨_, (true), (by first | rfl | (simp; done) | (simp [*]; done)), H', ⟨by first | omega | exact Nat.le_refl _⟩, by repeat (first | exact Drawn0.refl _ | apply Drawn0.step)⟩
      · rw [if_neg c4] at H
        have c4b0 : decide (32 < (a0.size : Int)) = false := decide_eq_false c4
        have c4b1 : decide (32 < a0.size) = false := decide_eq_false (by omega)
        clear c4
        by_cases c5 : a0.toList = ([115, 97, 121, 115] : List UInt8)
        · rw [if_pos c5] at H
          have c5b0 : (a0.toList == ([115, 97, 121, 115] : List UInt8)) = true := beq_iff_eq.mpr c5
          have c5b1 : (a0.toList != ([115, 97, 121, 115] : List UInt8)) = false := bne_eq_false_iff_eq.mpr c5
          clear c5
          have H' := Aside0.mk H
          clear H
          go_wp2
          go_meet
          case rel => exact ⟨_, (true), (by first | rfl | (simp; done) | (simp [*]; done)), H', ⟨by first | omega | exact Nat.le_refl _⟩, by repeat (first | exact Drawn0.refl _ | apply Drawn0.step)⟩
        · rw [if_neg c5] at H
          have c5b0 : (a0.toList == ([115, 97, 121, 115] : List UInt8)) = false := beq_eq_false_iff_ne.mpr c5
          have c5b1 : (a0.toList != ([115, 97, 121, 115] : List UInt8)) = true := bne_iff_ne.mpr c5
          by_cases c6 : 0 < (a0.size : Int)
          · rw [if_pos c6] at H
            have c6b0 : decide (0 < (a0.size : Int)) = true := decide_eq_true c6
            have c6b1 : decide (0 < a0.size) = true := decide_eq_true (by omega)
            clear c6
            by_cases c8 : (bt a0 0) < 97
            · rw [if_pos c8] at H
              have c8b0 : decide ((bt a0 0) < 97) = true := decide_eq_true c8
              clear c8
              have H' := Aside0.mk H
              clear H
              have p7 : 0 ≤ (0 : Int) := (by omega)
              have q7 : 0 < a0.size := (by have : (0 : Int) < (a0.size : Int) := of_decide_eq_true (by first | (with_reducible assumption) | assumption); omega)
              have hx7 : ∀ h : 0 < a0.size, ((a0[0]'h).toNat : Int) = bt a0 0 := bt_at a0 0
              clear p7
              have qi7 : (0 < (a0.size : Int)) = True := eq_true (of_decide_eq_true (by first | (with_reducible assumption) | assumption))
              replace q7 := eq_true q7
              go_wp2
              go_meet
              case rel => exact ⟨_, (true), (by first | rfl | (simp; done) | (simp [*]; done)), H', ⟨by first | omega | exact Nat.le_refl _⟩, by repeat (first | exact Drawn0.refl _ | apply Drawn0.step)⟩
            · rw [if_neg c8] at H
              have c8b0 : decide ((bt a0 0) < 97) = false := decide_eq_false c8
              clear c8
              have H' := Aside0.mk H
              clear H
              have p7 : 0 ≤ (0 : Int) := (by omega)
              have q7 : 0 < a0.size := (by have : (0 : Int) < (a0.size : Int) := of_decide_eq_true (by first | (with_reducible assumption) | assumption); omega)
              have hx7 : ∀ h : 0 < a0.size, ((a0[0]'h).toNat : Int) = bt a0 0 := bt_at a0 0
              clear p7
              have qi7 : (0 < (a0.size : Int)) = True := eq_true (of_decide_eq_true (by first | (with_reducible assumption) | assumption))
              replace q7 := eq_true q7
              have p9 : 0 ≤ (0 : Int) := (by omega)
              have q9 : 0 < a0.size := (by have : (0 : Int) < (a0.size : Int) := of_decide_eq_true (by first | (with_reducible assumption) | assumption); omega)
              have hx9 : ∀ h : 0 < a0.size, ((a0[0]'h).toNat : Int) = bt a0 0 := bt_at a0 0
              clear p9
              have qi9 : (0 < (a0.size : Int)) = True := eq_true (of_decide_eq_true (by first | (with_reducible assumption) | assumption))
              replace q9 := eq_true q9
              go_wp2
              go_meet
              case rel => exact ⟨_, (decide ((bt a0 0) > 122)), (by first | rfl | (simp; done) | (simp [*]; done)), H', ⟨by first | omega | exact Nat.le_refl _⟩, by repeat (first | exact Drawn0.refl _ | apply Drawn0.step)⟩
          · rw [if_neg c6] at H
            exact absurd H (by simp)
  case rest =>
    clear HC2
    try clear p2
    try clear c3
    try clear c3b0
    try clear c3b1
    try clear c4
    try clear c4b0
    try clear c4b1
    try clear c5
    try clear c5b0
    try clear c5b1
    try clear c6
    try clear c6b0
    try clear c6b1
    try clear p7
    try clear q7
    try clear hx7
    try clear qi7
    try clear c8
    try clear c8b0
    try clear p9
    try clear q9
    try clear hx9
    try clear qi9
    try clear p7
    try clear p9
    try clear q7
    try clear q9
    obtain ⟨kq, x25_1, rfl, HA, HJ1, ⟨mc1, rfl⟩⟩ := hcut
    cases kq with
    | zero => exact absurd HA.out (by simp [term_name.j0])
    | succ kj1 =>
      have H := HA.out
      clear HA
      simp only [term_name.j0] at H
      by_cases c10 : x25_1 = true
      · subst c10
        have H1 : (some false) = some r := by rw [if_pos rfl] at H; exact H
        clear H
        have H := H1
        clear H1
        obtain rfl := Option.some.inj H
        go_wp2
        go_ret
        exact ⟨by first | rfl | (simp; done) | (simp [*]; done), by repeat (first | exact Drawn0.refl _ | apply Drawn0.step)⟩
      · replace c10 := Bool.eq_false_iff.mpr c10
        subst c10
        have H1 : (term_name.l0 kj1 a0 (a0.size : Int) 0) = some r := by rw [if_neg (show ¬ (false = true) by decide)] at H; exact H
        clear H
        have H := H1
        clear H1
        have H' := Aside0.mk H
        clear H
        go_wp2
        go_loopg [28] kj1 (fun kq v28 w' => ∃ (x28_2 : Int), v28 = .int .i64 x28_2 ∧ Aside0 (term_name.l0 kq a0 (a0.size : Int) x28_2 = some r) ∧ Aside0 (kq ≤ kj1) ∧ Drawn0 w w')
        case atStart => exact ⟨(0), (by first | rfl | (simp; done) | (simp [*]; done)), H', ⟨Nat.le_refl _⟩, by repeat (first | exact Drawn0.refl _ | apply Drawn0.step)⟩
        case round =>
          clear H'
          try clear c1
          try clear p2
          try clear c3
          try clear c3b0
          try clear c3b1
          try clear c4
          try clear c4b0
          try clear c4b1
          try clear c5
          try clear c5b0
          try clear c5b1
          try clear c6
          try clear c6b0
          try clear c6b1
          try clear p7
          try clear q7
          try clear hx7
          try clear qi7
          try clear c8
          try clear c8b0
          try clear p9
          try clear q9
          try clear hx9
          try clear qi9
          try clear c10
          try clear p2
          try clear p7
          try clear p9
          try clear q7
          try clear q9
          obtain ⟨x28_2, rfl, HA, HK2, ⟨m2, rfl⟩⟩ := hrel
          cases gk with
          | zero => exact absurd HA.out (by simp [term_name.l0])
          | succ k2 =>
            have H := HA.out
            clear HA
            simp only [term_name.l0] at H
            by_cases c11 : x28_2 < (a0.size : Int)
            · rw [if_pos c11] at H
              have c11b0 : decide (x28_2 < (a0.size : Int)) = true := decide_eq_true c11
              clear c11
              by_cases c12 : 0 ≤ x28_2
              · rw [if_pos c12] at H
                have c12b0 : decide (0 ≤ x28_2) = true := decide_eq_true c12
                clear c12
                by_cases c13 : x28_2 < (a0.size : Int)
                · rw [if_pos c13] at H
                  have c13b0 : decide (x28_2 < (a0.size : Int)) = true := decide_eq_true c13
                  clear c13
                  by_cases c15 : (bt a0 x28_2) ≥ 97
                  · rw [if_pos c15] at H
                    have c15b0 : decide (97 ≤ (bt a0 x28_2)) = true := decide_eq_true c15
                    clear c15
                    by_cases c16 : (bt a0 x28_2) ≤ 122
                    · rw [if_pos c16] at H
                      have c16b0 : decide ((bt a0 x28_2) ≤ 122) = true := decide_eq_true c16
                      clear c16
                      have H' := Aside0.mk H
                      clear H
                      have p14 : 0 ≤ (x28_2 : Int) := of_decide_eq_true (by first | (with_reducible assumption) | assumption)
                      have q14 : x28_2 < (a0.size : Int) := of_decide_eq_true (by first | (with_reducible assumption) | assumption)
                      have hx14 := bt_at a0 x28_2
                      replace p14 := eq_true p14
                      replace q14 := eq_true q14
                      go_wp2
                      go_roundg k2
                      case measure => have := HJ1.out; have := HK2.out; omega
                      case rel => exact ⟨(wrap64 (x28_2 + 1)), (by first | rfl | (simp; done) | (simp [*]; done)), H', ⟨by have := HJ1.out; have := HK2.out; omega⟩, by repeat (first | exact Drawn0.refl _ | apply Drawn0.step)⟩
                    · rw [if_neg c16] at H
                      have c16b0 : decide ((bt a0 x28_2) ≤ 122) = false := decide_eq_false c16
                      clear c16
                      by_cases c17 : (bt a0 x28_2) ≥ 65
                      · rw [if_pos c17] at H
                        have c17b0 : decide (65 ≤ (bt a0 x28_2)) = true := decide_eq_true c17
                        clear c17
                        by_cases c18 : (bt a0 x28_2) ≤ 90
                        · rw [if_pos c18] at H
                          have c18b0 : decide ((bt a0 x28_2) ≤ 90) = true := decide_eq_true c18
                          clear c18
                          have H' := Aside0.mk H
                          clear H
                          have p14 : 0 ≤ (x28_2 : Int) := of_decide_eq_true (by first | (with_reducible assumption) | assumption)
                          have q14 : x28_2 < (a0.size : Int) := of_decide_eq_true (by first | (with_reducible assumption) | assumption)
                          have hx14 := bt_at a0 x28_2
                          replace p14 := eq_true p14
                          replace q14 := eq_true q14
                          go_wp2
                          go_roundg k2
                          case measure => have := HJ1.out; have := HK2.out; omega
                          case rel => exact ⟨(wrap64 (x28_2 + 1)), (by first | rfl | (simp; done) | (simp [*]; done)), H', ⟨by have := HJ1.out; have := HK2.out; omega⟩, by repeat (first | exact Drawn0.refl _ | apply Drawn0.step)⟩
                        · rw [if_neg c18] at H
                          have c18b0 : decide ((bt a0 x28_2) ≤ 90) = false := decide_eq_false c18
                          clear c18
                          by_cases c19 : (bt a0 x28_2) ≥ 48
                          · rw [if_pos c19] at H
                            have c19b0 : decide (48 ≤ (bt a0 x28_2)) = true := decide_eq_true c19
                            clear c19
                            by_cases c20 : (bt a0 x28_2) ≤ 57
                            · rw [if_pos c20] at H
                              have c20b0 : decide ((bt a0 x28_2) ≤ 57) = true := decide_eq_true c20
                              clear c20
                              have H' := Aside0.mk H
                              clear H
                              have p14 : 0 ≤ (x28_2 : Int) := of_decide_eq_true (by first | (with_reducible assumption) | assumption)
                              have q14 : x28_2 < (a0.size : Int) := of_decide_eq_true (by first | (with_reducible assumption) | assumption)
                              have hx14 := bt_at a0 x28_2
                              replace p14 := eq_true p14
                              replace q14 := eq_true q14
                              go_wp2
                              go_roundg k2
                              case measure => have := HJ1.out; have := HK2.out; omega
                              case rel => exact ⟨(wrap64 (x28_2 + 1)), (by first | rfl | (simp; done) | (simp [*]; done)), H', ⟨by have := HJ1.out; have := HK2.out; omega⟩, by repeat (first | exact Drawn0.refl _ | apply Drawn0.step)⟩
                            · rw [if_neg c20] at H
                              have c20b0 : decide ((bt a0 x28_2) ≤ 57) = false := decide_eq_false c20
                              clear c20
                              by_cases c21 : ((bt a0 x28_2) = 95)
                              · rw [if_pos c21] at H
                                have c21b0 : ((bt a0 x28_2) == 95) = true := beq_iff_eq.mpr c21
                                have c21b1 : ((bt a0 x28_2) != 95) = false := bne_eq_false_iff_eq.mpr c21
                                clear c21
                                have H' := Aside0.mk H
                                clear H
                                have p14 : 0 ≤ (x28_2 : Int) := of_decide_eq_true (by first | (with_reducible assumption) | assumption)
                                have q14 : x28_2 < (a0.size : Int) := of_decide_eq_true (by first | (with_reducible assumption) | assumption)
                                have hx14 := bt_at a0 x28_2
                                replace p14 := eq_true p14
                                replace q14 := eq_true q14
                                go_wp2
                                go_roundg k2
                                case measure => have := HJ1.out; have := HK2.out; omega
                                case rel => exact ⟨(wrap64 (x28_2 + 1)), (by first | rfl | (simp; done) | (simp [*]; done)), H', ⟨by have := HJ1.out; have := HK2.out; omega⟩, by repeat (first | exact Drawn0.refl _ | apply Drawn0.step)⟩
                              · rw [if_neg c21] at H
                                have c21b0 : ((bt a0 x28_2) == 95) = false := beq_eq_false_iff_ne.mpr c21
                                have c21b1 : ((bt a0 x28_2) != 95) = true := bne_iff_ne.mpr c21
                                obtain rfl := Option.some.inj H
                                have p14 : 0 ≤ (x28_2 : Int) := of_decide_eq_true (by first | (with_reducible assumption) | assumption)
                                have q14 : x28_2 < (a0.size : Int) := of_decide_eq_true (by first | (with_reducible assumption) | assumption)
                                have hx14 := bt_at a0 x28_2
                                replace p14 := eq_true p14
                                replace q14 := eq_true q14
                                go_wp2
                                go_ret
                                exact ⟨by first | rfl | (simp; done) | (simp [*]; done), by repeat (first | exact Drawn0.refl _ | apply Drawn0.step)⟩
                          · rw [if_neg c19] at H
                            have c19b0 : decide (48 ≤ (bt a0 x28_2)) = false := decide_eq_false c19
                            clear c19
                            by_cases c22 : ((bt a0 x28_2) = 95)
                            · rw [if_pos c22] at H
                              have c22b0 : ((bt a0 x28_2) == 95) = true := beq_iff_eq.mpr c22
                              have c22b1 : ((bt a0 x28_2) != 95) = false := bne_eq_false_iff_eq.mpr c22
                              clear c22
                              have H' := Aside0.mk H
                              clear H
                              have p14 : 0 ≤ (x28_2 : Int) := of_decide_eq_true (by first | (with_reducible assumption) | assumption)
                              have q14 : x28_2 < (a0.size : Int) := of_decide_eq_true (by first | (with_reducible assumption) | assumption)
                              have hx14 := bt_at a0 x28_2
                              replace p14 := eq_true p14
                              replace q14 := eq_true q14
                              go_wp2
                              go_roundg k2
                              case measure => have := HJ1.out; have := HK2.out; omega
                              case rel => exact ⟨(wrap64 (x28_2 + 1)), (by first | rfl | (simp; done) | (simp [*]; done)), H', ⟨by have := HJ1.out; have := HK2.out; omega⟩, by repeat (first | exact Drawn0.refl _ | apply Drawn0.step)⟩
                            · rw [if_neg c22] at H
                              have c22b0 : ((bt a0 x28_2) == 95) = false := beq_eq_false_iff_ne.mpr c22
                              have c22b1 : ((bt a0 x28_2) != 95) = true := bne_iff_ne.mpr c22
                              obtain rfl := Option.some.inj H
                              have p14 : 0 ≤ (x28_2 : Int) := of_decide_eq_true (by first | (with_reducible assumption) | assumption)
                              have q14 : x28_2 < (a0.size : Int) := of_decide_eq_true (by first | (with_reducible assumption) | assumption)
                              have hx14 := bt_at a0 x28_2
                              replace p14 := eq_true p14
                              replace q14 := eq_true q14
                              go_wp2
                              go_ret
                              exact ⟨by first | rfl | (simp; done) | (simp [*]; done), by repeat (first | exact Drawn0.refl _ | apply Drawn0.step)⟩
                      · rw [if_neg c17] at H
                        have c17b0 : decide (65 ≤ (bt a0 x28_2)) = false := decide_eq_false c17
                        clear c17
                        by_cases c23 : (bt a0 x28_2) ≥ 48
                        · rw [if_pos c23] at H
                          have c23b0 : decide (48 ≤ (bt a0 x28_2)) = true := decide_eq_true c23
                          clear c23
                          by_cases c24 : (bt a0 x28_2) ≤ 57
                          · rw [if_pos c24] at H
                            have c24b0 : decide ((bt a0 x28_2) ≤ 57) = true := decide_eq_true c24
                            clear c24
                            have H' := Aside0.mk H
                            clear H
                            have p14 : 0 ≤ (x28_2 : Int) := of_decide_eq_true (by first | (with_reducible assumption) | assumption)
                            have q14 : x28_2 < (a0.size : Int) := of_decide_eq_true (by first | (with_reducible assumption) | assumption)
                            have hx14 := bt_at a0 x28_2
                            replace p14 := eq_true p14
                            replace q14 := eq_true q14
                            go_wp2
                            go_roundg k2
                            case measure => have := HJ1.out; have := HK2.out; omega
                            case rel => exact ⟨(wrap64 (x28_2 + 1)), (by first | rfl | (simp; done) | (simp [*]; done)), H', ⟨by have := HJ1.out; have := HK2.out; omega⟩, by repeat (first | exact Drawn0.refl _ | apply Drawn0.step)⟩
                          · rw [if_neg c24] at H
                            have c24b0 : decide ((bt a0 x28_2) ≤ 57) = false := decide_eq_false c24
                            clear c24
                            by_cases c25 : ((bt a0 x28_2) = 95)
                            · rw [if_pos c25] at H
                              have c25b0 : ((bt a0 x28_2) == 95) = true := beq_iff_eq.mpr c25
                              have c25b1 : ((bt a0 x28_2) != 95) = false := bne_eq_false_iff_eq.mpr c25
                              clear c25
                              have H' := Aside0.mk H
                              clear H
                              have p14 : 0 ≤ (x28_2 : Int) := of_decide_eq_true (by first | (with_reducible assumption) | assumption)
                              have q14 : x28_2 < (a0.size : Int) := of_decide_eq_true (by first | (with_reducible assumption) | assumption)
                              have hx14 := bt_at a0 x28_2
                              replace p14 := eq_true p14
                              replace q14 := eq_true q14
                              go_wp2
                              go_roundg k2
                              case measure => have := HJ1.out; have := HK2.out; omega
                              case rel => exact ⟨(wrap64 (x28_2 + 1)), (by first | rfl | (simp; done) | (simp [*]; done)), H', ⟨by have := HJ1.out; have := HK2.out; omega⟩, by repeat (first | exact Drawn0.refl _ | apply Drawn0.step)⟩
                            · rw [if_neg c25] at H
                              have c25b0 : ((bt a0 x28_2) == 95) = false := beq_eq_false_iff_ne.mpr c25
                              have c25b1 : ((bt a0 x28_2) != 95) = true := bne_iff_ne.mpr c25
                              obtain rfl := Option.some.inj H
                              have p14 : 0 ≤ (x28_2 : Int) := of_decide_eq_true (by first | (with_reducible assumption) | assumption)
                              have q14 : x28_2 < (a0.size : Int) := of_decide_eq_true (by first | (with_reducible assumption) | assumption)
                              have hx14 := bt_at a0 x28_2
                              replace p14 := eq_true p14
                              replace q14 := eq_true q14
                              go_wp2
                              go_ret
                              exact ⟨by first | rfl | (simp; done) | (simp [*]; done), by repeat (first | exact Drawn0.refl _ | apply Drawn0.step)⟩
                        · rw [if_neg c23] at H
                          have c23b0 : decide (48 ≤ (bt a0 x28_2)) = false := decide_eq_false c23
                          clear c23
                          by_cases c26 : ((bt a0 x28_2) = 95)
                          · rw [if_pos c26] at H
                            have c26b0 : ((bt a0 x28_2) == 95) = true := beq_iff_eq.mpr c26
                            have c26b1 : ((bt a0 x28_2) != 95) = false := bne_eq_false_iff_eq.mpr c26
                            clear c26
                            have H' := Aside0.mk H
                            clear H
                            have p14 : 0 ≤ (x28_2 : Int) := of_decide_eq_true (by first | (with_reducible assumption) | assumption)
                            have q14 : x28_2 < (a0.size : Int) := of_decide_eq_true (by first | (with_reducible assumption) | assumption)
                            have hx14 := bt_at a0 x28_2
                            replace p14 := eq_true p14
                            replace q14 := eq_true q14
                            go_wp2
                            go_roundg k2
                            case measure => have := HJ1.out; have := HK2.out; omega
                            case rel => exact ⟨(wrap64 (x28_2 + 1)), (by first | rfl | (simp; done) | (simp [*]; done)), H', ⟨by have := HJ1.out; have := HK2.out; omega⟩, by repeat (first | exact Drawn0.refl _ | apply Drawn0.step)⟩
                          · rw [if_neg c26] at H
                            have c26b0 : ((bt a0 x28_2) == 95) = false := beq_eq_false_iff_ne.mpr c26
                            have c26b1 : ((bt a0 x28_2) != 95) = true := bne_iff_ne.mpr c26
                            obtain rfl := Option.some.inj H
                            have p14 : 0 ≤ (x28_2 : Int) := of_decide_eq_true (by first | (with_reducible assumption) | assumption)
                            have q14 : x28_2 < (a0.size : Int) := of_decide_eq_true (by first | (with_reducible assumption) | assumption)
                            have hx14 := bt_at a0 x28_2
                            replace p14 := eq_true p14
                            replace q14 := eq_true q14
                            go_wp2
                            go_ret
                            exact ⟨by first | rfl | (simp; done) | (simp [*]; done), by repeat (first | exact Drawn0.refl _ | apply Drawn0.step)⟩
                  · rw [if_neg c15] at H
                    have c15b0 : decide (97 ≤ (bt a0 x28_2)) = false := decide_eq_false c15
                    clear c15
                    by_cases c27 : (bt a0 x28_2) ≥ 65
                    · rw [if_pos c27] at H
                      have c27b0 : decide (65 ≤ (bt a0 x28_2)) = true := decide_eq_true c27
                      clear c27
                      by_cases c28 : (bt a0 x28_2) ≤ 90
                      · rw [if_pos c28] at H
                        have c28b0 : decide ((bt a0 x28_2) ≤ 90) = true := decide_eq_true c28
                        clear c28
                        have H' := Aside0.mk H
                        clear H
                        have p14 : 0 ≤ (x28_2 : Int) := of_decide_eq_true (by first | (with_reducible assumption) | assumption)
                        have q14 : x28_2 < (a0.size : Int) := of_decide_eq_true (by first | (with_reducible assumption) | assumption)
                        have hx14 := bt_at a0 x28_2
                        replace p14 := eq_true p14
                        replace q14 := eq_true q14
                        go_wp2
                        go_roundg k2
                        case measure => have := HJ1.out; have := HK2.out; omega
                        case rel => exact ⟨(wrap64 (x28_2 + 1)), (by first | rfl | (simp; done) | (simp [*]; done)), H', ⟨by have := HJ1.out; have := HK2.out; omega⟩, by repeat (first | exact Drawn0.refl _ | apply Drawn0.step)⟩
                      · rw [if_neg c28] at H
                        have c28b0 : decide ((bt a0 x28_2) ≤ 90) = false := decide_eq_false c28
                        clear c28
                        by_cases c29 : (bt a0 x28_2) ≥ 48
                        · rw [if_pos c29] at H
                          have c29b0 : decide (48 ≤ (bt a0 x28_2)) = true := decide_eq_true c29
                          clear c29
                          by_cases c30 : (bt a0 x28_2) ≤ 57
                          · rw [if_pos c30] at H
                            have c30b0 : decide ((bt a0 x28_2) ≤ 57) = true := decide_eq_true c30
                            clear c30
                            have H' := Aside0.mk H
                            clear H
                            have p14 : 0 ≤ (x28_2 : Int) := of_decide_eq_true (by first | (with_reducible assumption) | assumption)
                            have q14 : x28_2 < (a0.size : Int) := of_decide_eq_true (by first | (with_reducible assumption) | assumption)
                            have hx14 := bt_at a0 x28_2
                            replace p14 := eq_true p14
                            replace q14 := eq_true q14
                            go_wp2
                            go_roundg k2
                            case measure => have := HJ1.out; have := HK2.out; omega
                            case rel => exact ⟨(wrap64 (x28_2 + 1)), (by first | rfl | (simp; done) | (simp [*]; done)), H', ⟨by have := HJ1.out; have := HK2.out; omega⟩, by repeat (first | exact Drawn0.refl _ | apply Drawn0.step)⟩
                          · rw [if_neg c30] at H
                            have c30b0 : decide ((bt a0 x28_2) ≤ 57) = false := decide_eq_false c30
                            clear c30
                            by_cases c31 : ((bt a0 x28_2) = 95)
                            · rw [if_pos c31] at H
                              have c31b0 : ((bt a0 x28_2) == 95) = true := beq_iff_eq.mpr c31
                              have c31b1 : ((bt a0 x28_2) != 95) = false := bne_eq_false_iff_eq.mpr c31
                              clear c31
                              have H' := Aside0.mk H
                              clear H
                              have p14 : 0 ≤ (x28_2 : Int) := of_decide_eq_true (by first | (with_reducible assumption) | assumption)
                              have q14 : x28_2 < (a0.size : Int) := of_decide_eq_true (by first | (with_reducible assumption) | assumption)
                              have hx14 := bt_at a0 x28_2
                              replace p14 := eq_true p14
                              replace q14 := eq_true q14
                              go_wp2
                              go_roundg k2
                              case measure => have := HJ1.out; have := HK2.out; omega
                              case rel => exact ⟨(wrap64 (x28_2 + 1)), (by first | rfl | (simp; done) | (simp [*]; done)), H', ⟨by have := HJ1.out; have := HK2.out; omega⟩, by repeat (first | exact Drawn0.refl _ | apply Drawn0.step)⟩
                            · rw [if_neg c31] at H
                              have c31b0 : ((bt a0 x28_2) == 95) = false := beq_eq_false_iff_ne.mpr c31
                              have c31b1 : ((bt a0 x28_2) != 95) = true := bne_iff_ne.mpr c31
                              obtain rfl := Option.some.inj H
                              have p14 : 0 ≤ (x28_2 : Int) := of_decide_eq_true (by first | (with_reducible assumption) | assumption)
                              have q14 : x28_2 < (a0.size : Int) := of_decide_eq_true (by first | (with_reducible assumption) | assumption)
                              have hx14 := bt_at a0 x28_2
                              replace p14 := eq_true p14
                              replace q14 := eq_true q14
                              go_wp2
                              go_ret
                              exact ⟨by first | rfl | (simp; done) | (simp [*]; done), by repeat (first | exact Drawn0.refl _ | apply Drawn0.step)⟩
                        · rw [if_neg c29] at H
                          have c29b0 : decide (48 ≤ (bt a0 x28_2)) = false := decide_eq_false c29
                          clear c29
                          by_cases c32 : ((bt a0 x28_2) = 95)
                          · rw [if_pos c32] at H
                            have c32b0 : ((bt a0 x28_2) == 95) = true := beq_iff_eq.mpr c32
                            have c32b1 : ((bt a0 x28_2) != 95) = false := bne_eq_false_iff_eq.mpr c32
                            clear c32
                            have H' := Aside0.mk H
                            clear H
                            have p14 : 0 ≤ (x28_2 : Int) := of_decide_eq_true (by first | (with_reducible assumption) | assumption)
                            have q14 : x28_2 < (a0.size : Int) := of_decide_eq_true (by first | (with_reducible assumption) | assumption)
                            have hx14 := bt_at a0 x28_2
                            replace p14 := eq_true p14
                            replace q14 := eq_true q14
                            go_wp2
                            go_roundg k2
                            case measure => have := HJ1.out; have := HK2.out; omega
                            case rel => exact ⟨(wrap64 (x28_2 + 1)), (by first | rfl | (simp; done) | (simp [*]; done)), H', ⟨by have := HJ1.out; have := HK2.out; omega⟩, by repeat (first | exact Drawn0.refl _ | apply Drawn0.step)⟩
                          · rw [if_neg c32] at H
                            have c32b0 : ((bt a0 x28_2) == 95) = false := beq_eq_false_iff_ne.mpr c32
                            have c32b1 : ((bt a0 x28_2) != 95) = true := bne_iff_ne.mpr c32
                            obtain rfl := Option.some.inj H
                            have p14 : 0 ≤ (x28_2 : Int) := of_decide_eq_true (by first | (with_reducible assumption) | assumption)
                            have q14 : x28_2 < (a0.size : Int) := of_decide_eq_true (by first | (with_reducible assumption) | assumption)
                            have hx14 := bt_at a0 x28_2
                            replace p14 := eq_true p14
                            replace q14 := eq_true q14
                            go_wp2
                            go_ret
                            exact ⟨by first | rfl | (simp; done) | (simp [*]; done), by repeat (first | exact Drawn0.refl _ | apply Drawn0.step)⟩
                    · rw [if_neg c27] at H
                      have c27b0 : decide (65 ≤ (bt a0 x28_2)) = false := decide_eq_false c27
                      clear c27
                      by_cases c33 : (bt a0 x28_2) ≥ 48
                      · rw [if_pos c33] at H
                        have c33b0 : decide (48 ≤ (bt a0 x28_2)) = true := decide_eq_true c33
                        clear c33
                        by_cases c34 : (bt a0 x28_2) ≤ 57
                        · rw [if_pos c34] at H
                          have c34b0 : decide ((bt a0 x28_2) ≤ 57) = true := decide_eq_true c34
                          clear c34
                          have H' := Aside0.mk H
                          clear H
                          have p14 : 0 ≤ (x28_2 : Int) := of_decide_eq_true (by first | (with_reducible assumption) | assumption)
                          have q14 : x28_2 < (a0.size : Int) := of_decide_eq_true (by first | (with_reducible assumption) | assumption)
                          have hx14 := bt_at a0 x28_2
                          replace p14 := eq_true p14
                          replace q14 := eq_true q14
                          go_wp2
                          go_roundg k2
                          case measure => have := HJ1.out; have := HK2.out; omega
                          case rel => exact ⟨(wrap64 (x28_2 + 1)), (by first | rfl | (simp; done) | (simp [*]; done)), H', ⟨by have := HJ1.out; have := HK2.out; omega⟩, by repeat (first | exact Drawn0.refl _ | apply Drawn0.step)⟩
                        · rw [if_neg c34] at H
                          have c34b0 : decide ((bt a0 x28_2) ≤ 57) = false := decide_eq_false c34
                          clear c34
                          by_cases c35 : ((bt a0 x28_2) = 95)
                          · rw [if_pos c35] at H
                            have c35b0 : ((bt a0 x28_2) == 95) = true := beq_iff_eq.mpr c35
                            have c35b1 : ((bt a0 x28_2) != 95) = false := bne_eq_false_iff_eq.mpr c35
                            clear c35
                            have H' := Aside0.mk H
                            clear H
                            have p14 : 0 ≤ (x28_2 : Int) := of_decide_eq_true (by first | (with_reducible assumption) | assumption)
                            have q14 : x28_2 < (a0.size : Int) := of_decide_eq_true (by first | (with_reducible assumption) | assumption)
                            have hx14 := bt_at a0 x28_2
                            replace p14 := eq_true p14
                            replace q14 := eq_true q14
                            go_wp2
                            go_roundg k2
                            case measure => have := HJ1.out; have := HK2.out; omega
                            case rel => exact ⟨(wrap64 (x28_2 + 1)), (by first | rfl | (simp; done) | (simp [*]; done)), H', ⟨by have := HJ1.out; have := HK2.out; omega⟩, by repeat (first | exact Drawn0.refl _ | apply Drawn0.step)⟩
                          · rw [if_neg c35] at H
                            have c35b0 : ((bt a0 x28_2) == 95) = false := beq_eq_false_iff_ne.mpr c35
                            have c35b1 : ((bt a0 x28_2) != 95) = true := bne_iff_ne.mpr c35
                            obtain rfl := Option.some.inj H
                            have p14 : 0 ≤ (x28_2 : Int) := of_decide_eq_true (by first | (with_reducible assumption) | assumption)
                            have q14 : x28_2 < (a0.size : Int) := of_decide_eq_true (by first | (with_reducible assumption) | assumption)
                            have hx14 := bt_at a0 x28_2
                            replace p14 := eq_true p14
                            replace q14 := eq_true q14
                            go_wp2
                            go_ret
                            exact ⟨by first | rfl | (simp; done) | (simp [*]; done), by repeat (first | exact Drawn0.refl _ | apply Drawn0.step)⟩
                      · rw [if_neg c33] at H
                        have c33b0 : decide (48 ≤ (bt a0 x28_2)) = false := decide_eq_false c33
                        clear c33
                        by_cases c36 : ((bt a0 x28_2) = 95)
                        · rw [if_pos c36] at H
                          have c36b0 : ((bt a0 x28_2) == 95) = true := beq_iff_eq.mpr c36
                          have c36b1 : ((bt a0 x28_2) != 95) = false := bne_eq_false_iff_eq.mpr c36
                          clear c36
                          have H' := Aside0.mk H
                          clear H
                          have p14 : 0 ≤ (x28_2 : Int) := of_decide_eq_true (by first | (with_reducible assumption) | assumption)
                          have q14 : x28_2 < (a0.size : Int) := of_decide_eq_true (by first | (with_reducible assumption) | assumption)
                          have hx14 := bt_at a0 x28_2
                          replace p14 := eq_true p14
                          replace q14 := eq_true q14
                          go_wp2
                          go_roundg k2
                          case measure => have := HJ1.out; have := HK2.out; omega
                          case rel => exact ⟨(wrap64 (x28_2 + 1)), (by first | rfl | (simp; done) | (simp [*]; done)), H', ⟨by have := HJ1.out; have := HK2.out; omega⟩, by repeat (first | exact Drawn0.refl _ | apply Drawn0.step)⟩
                        · rw [if_neg c36] at H
                          have c36b0 : ((bt a0 x28_2) == 95) = false := beq_eq_false_iff_ne.mpr c36
                          have c36b1 : ((bt a0 x28_2) != 95) = true := bne_iff_ne.mpr c36
                          obtain rfl := Option.some.inj H
                          have p14 : 0 ≤ (x28_2 : Int) := of_decide_eq_true (by first | (with_reducible assumption) | assumption)
                          have q14 : x28_2 < (a0.size : Int) := of_decide_eq_true (by first | (with_reducible assumption) | assumption)
                          have hx14 := bt_at a0 x28_2
                          replace p14 := eq_true p14
                          replace q14 := eq_true q14
                          go_wp2
                          go_ret
                          exact ⟨by first | rfl | (simp; done) | (simp [*]; done), by repeat (first | exact Drawn0.refl _ | apply Drawn0.step)⟩
                · rw [if_neg c13] at H
                  exact absurd H (by simp)
              · rw [if_neg c12] at H
                exact absurd H (by simp)
            · rw [if_neg c11] at H
              have c11b0 : decide (x28_2 < (a0.size : Int)) = false := decide_eq_false c11
              clear c11
              obtain rfl := Option.some.inj H
              go_wp2
              go_ret
              exact ⟨by first | rfl | (simp; done) | (simp [*]; done), by repeat (first | exact Drawn0.refl _ | apply Drawn0.step)⟩

end Go.Proofs.YtdplpcedfkfajaaDoor.T
