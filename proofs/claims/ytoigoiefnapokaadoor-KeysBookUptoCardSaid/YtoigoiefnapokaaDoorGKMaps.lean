/- The two maps of a ring: keys by name, seals by name and digest. -/
import Derived.Test.YtoigoiefnapokaaDoorGKMac
import Derived.Test.YtoigoiefnapokaaDoorGKLock
import Derived.Maps.OwnSet
import Derived.Maps.OwnOps
import Derived.Maps.Views
import Derived.DeepKeys4
set_option linter.unusedVariables false
set_option linter.unusedSimpArgs false
namespace Go.Proofs.YtoigoiefnapokaaDoor.T
open Go.RowKit Go.Maps Go.Proofs.YtoigoiefnapokaaDoorW.PrintWords Go.Proofs.YtoigoiefnapokaaDoorW.PrintLast
/-- A digest as a value. -/
def digV (d : List Int) : Value := .agg (nums .u8 d).toArray
theorem digV_inj {d d' : List Int} (h : digV d = digV d') : d = d' := by
  simp only [digV, Value.agg.injEq] at h
  have h2 : nums IntKind.u8 d = nums .u8 d' := by simpa using congrArg Array.toList h
  unfold nums at h2
  exact (List.map_inj_right (fun a b e => by injection e)).1 h2
def zeroD : List Int := List.replicate 32 0
/-- 32 bytes. -/
def IsD (d : List Int) : Prop := d.length = 32 ∧ ∀ x ∈ d, 0 ≤ x ∧ x < 256
/-- An element reads as what it is. -/
def RD (v : Value) : Option (DataW Value × List MemPlace) := some (.held v, [])
section
variable {α : Type} {kl : α → Lit} {ok : α → Prop} {D : DataW Value}
/-- What a map says. -/
structure Says (D : DataW Value) (kl : α → Lit) (ok : α → Prop) (f : α → Option (List Int)) : Prop where
  has : ∀ a, ok a → Maps.has D (kl a) = (f a).isSome
  at_ : ∀ a, ok a → ∀ z, D.atKey (kl a) z = match f a with | some v => .held (digV v) | none => z
open Classical in
noncomputable def upd (f : α → Option (List Int)) (a : α) (v : List Int) : α → Option (List Int) := fun b => if b = a then some v else f b
theorem Says.put {f : α → Option (List Int)} (h : Says D kl ok f) (hm : IsMap D) (hk : ∀ a, ok a → WideAt.IsKeyLit (kl a)) (hi : ∀ a b, ok a → ok b → kl a = kl b → a = b) {a : α} (ha : ok a) (v : List Int) :
    Says (D.put (kl a) (.held (digV v))) kl ok (upd f a v) := by
  constructor
  · intro b hb
    unfold upd
    split
    · rename_i e; subst e
      rw [has_put_same hm (hk _ ha)]; rfl
    · rename_i e
      rw [has_put_other (fun e' => e (hi _ _ hb ha e')), h.has b hb]
  · intro b hb z
    unfold upd
    by_cases e : b = a
    · subst e
      rw [atKey_put_same hm (hk _ ha), if_pos rfl]
    · rw [atKey_put_other (fun e' => e (hi _ _ hb ha e')), h.at_ b hb z, if_neg e]
theorem says_nil : Says (.map [] : DataW Value) kl ok (fun _ => none) := ⟨fun _ _ => rfl, fun _ _ _ => rfl⟩
end
/-! names -/
def klS (s : ByteArray) : Lit := .string s.data.toList
def okS (s : ByteArray) : Prop := s.size ≤ maxLen
theorem klS_inj (a b : ByteArray) (_ : okS a) (_ : okS b) (h : klS a = klS b) : a = b := by
  cases a with | mk x => cases b with | mk y =>
  simp only [klS, Lit.string.injEq] at h
  exact congrArg ByteArray.mk (Array.toList_inj.1 h)
theorem lawS : Keyed Tryd.prog 9 := string_keyed Tryd.underlying9
theorem keyS {s : ByteArray} (h : okS s) : keyOf Tryd.prog 9 (.string s) = some (klS s) := WideMaps.keyOf_string_mk Tryd.underlying9 h
theorem klS_key (s : ByteArray) (h : okS s) : WideAt.IsKeyLit (klS s) := lawS.key (keyS h)
/-! pairs -/
def pairV (s : ByteArray) (d : List Int) : Value := .agg (.string s :: nums .u8 d).toArray
theorem pairV_inj {s s' : ByteArray} {d d' : List Int} (h : pairV s d = pairV s' d') : s = s' ∧ d = d' := by
  simp only [pairV, Value.agg.injEq] at h
  have h2 : (Value.string s :: nums IntKind.u8 d) = .string s' :: nums .u8 d' := by simpa using congrArg Array.toList h
  injection h2 with h3 h4
  refine ⟨by injection h3, digV_inj ?_⟩
  unfold digV
  rw [h4]
theorem mapM_all {α β : Type} {f : α → Option β} {g : α → β} : ∀ {l : List α}, (∀ x ∈ l, f x = some (g x)) → l.mapM f = some (l.map g)
  | [], _ => rfl
  | x :: r, h => by
    rw [List.mapM_cons, h x (by simp), mapM_all (fun y hy => h y (by simp [hy]))]
    rfl
theorem lits_u8 (m : Nat) (x : Int) (h : 0 ≤ x ∧ x < 256) : Tryd.prog.keyLits (m + 1) 5 [.int .u8 x] = some [.int .u8 x] := by
  have hw : (Lit.int .u8 x).wf = true := by
    have e0 : IntKind.u8.min = 0 := by decide
    have e1 : IntKind.u8.max = 255 := by decide
    simp only [Lit.wf, Bool.and_eq_true, decide_eq_true_eq]
    omega
  simp [Program.keyLits, Tryd.underlying5, hw]
theorem cells_u8 : Tryd.prog.cellsOf 5 = 1 := by kernel_rfl
theorem cells_dig : Tryd.prog.cellsOf 27 = 32 := by kernel_rfl
theorem cells_str : Tryd.prog.cellsOf 9 = 1 := by kernel_rfl
theorem cells_pair : Tryd.prog.cellsOf 69 = 33 := by kernel_rfl
theorem lits_dig (m : Nat) (d : List Int) (h : IsD d) : ∃ ls, Tryd.prog.keyLits (m + 2) 27 (nums .u8 d) = some ls := by
  have e : (List.range 32).mapM (fun i => Tryd.prog.keyLits (m + 1) 5 (((nums IntKind.u8 d).drop (i * Tryd.prog.cellsOf 5)).take (Tryd.prog.cellsOf 5))) = some ((List.range 32).map fun i => [Lit.int .u8 (d.getD i 0)]) := by
    refine mapM_all (fun i hi => ?_)
    have hi' : i < 32 := by simpa using hi
    have hl : i < (nums IntKind.u8 d).length := by rw [nums_length, h.1]; exact hi'
    have hd : i < d.length := by rw [h.1]; exact hi'
    have e1 : ((nums IntKind.u8 d).drop (i * 1)).take 1 = [.int .u8 (d.getD i 0)] := by
      rw [Nat.mul_one, List.drop_eq_getElem_cons hl, List.take_succ_cons, List.take_zero]
      have := nums_get (k := .u8) i hd
      rw [List.getElem?_eq_getElem hl] at this
      injection this with this
      rw [this]
    rw [cells_u8, e1]
    refine lits_u8 m _ ?_
    rw [List.getD_eq_getElem?_getD, List.getElem?_eq_getElem hd]
    exact h.2 _ (List.getElem_mem hd)
  refine ⟨List.flatten ((List.range 32).map fun i => [Lit.int .u8 (d.getD i 0)]), ?_⟩
  unfold Program.keyLits
  simp only [Tryd.underlying27, cells_dig, nums_length, h.1]
  rw [if_pos trivial, e]
  rfl
theorem size_types : ∃ m, Tryd.prog.types.size = m + 2 := by
  have h : decide (2 ≤ Tryd.prog.types.size) = true := by kernel_rfl
  have := of_decide_eq_true h
  exact ⟨Tryd.prog.types.size - 2, by omega⟩
theorem lits_pair (m : Nat) {s : ByteArray} {d : List Int} (hs : okS s) (hd : IsD d) : ∃ ls, Tryd.prog.keyLits (m + 3) 69 (.string s :: nums .u8 d) = some ls := by
  obtain ⟨ld, hld⟩ := lits_dig m d hd
  have h1 : Tryd.prog.keyLits (m + 2) 9 [.string s] = some [.string s.data.toList] := by
    unfold Program.keyLits
    simp only [Tryd.underlying9]
    rw [if_pos (show s.size ≤ maxLen from hs)]
  have ht : (nums IntKind.u8 d).take 32 = nums .u8 d := List.take_of_length_le (by rw [nums_length, hd.1]; exact Nat.le_refl _)
  refine ⟨[.string s.data.toList] ++ ld, ?_⟩
  unfold Program.keyLits
  simp only [Tryd.underlying69, cells_pair, List.length_cons, nums_length, hd.1]
  rw [if_pos ⟨trivial, by simp⟩]
  simp only [List.mapM_cons, List.mapM_nil, List.drop_zero, List.drop_succ_cons, cells_str, cells_dig, List.take_succ_cons, List.take_zero, ht, h1, hld, Option.bind_eq_bind, Option.bind_some, Option.pure_def, Option.map_some, List.flatten_cons, List.flatten_nil, List.append_nil]
theorem key_isPair {s : ByteArray} {d : List Int} (hs : okS s) (hd : IsD d) : ∃ l, keyOf Tryd.prog 69 (pairV s d) = some l := by
  obtain ⟨m, hm⟩ := size_types
  obtain ⟨ls, hls⟩ := lits_pair m hs hd
  refine ⟨.string (keyBytes ls), ?_⟩
  have hkt : Tryd.prog.keyType 69 = true := by kernel_rfl
  have hf : (pairV s d).formed Tryd.prog 69 = true := by
    unfold pairV Value.formed
    simp only [Tryd.underlying69, cells_pair, List.size_toArray, List.length_cons, nums_length, hd.1]
    rfl
  unfold keyOf
  simp only [Tryd.underlying69]
  rw [hkt, hf, hm]
  have hc : (pairV s d).cells.toList = .string s :: nums .u8 d := by simp [pairV, Value.cells]
  rw [hc, hls]
  rfl
def okP (p : ByteArray × List Int) : Prop := okS p.1 ∧ IsD p.2
theorem klP_ex : ∃ f : ByteArray × List Int → Lit, ∀ s d, okS s → IsD d → keyOf Tryd.prog 69 (pairV s d) = some (f (s, d)) := by
  refine ⟨fun p => (keyOf Tryd.prog 69 (pairV p.1 p.2)).getD (.bool false), fun s d hs hd => ?_⟩
  obtain ⟨l, hl⟩ := key_isPair hs hd
  dsimp only
  rw [hl]
  rfl
/-- The literal of a pair: chosen, so that nothing unfolds it. -/
noncomputable def klP : ByteArray × List Int → Lit := Classical.choose klP_ex
theorem keyP {s : ByteArray} {d : List Int} (hs : okS s) (hd : IsD d) : keyOf Tryd.prog 69 (pairV s d) = some (klP (s, d)) := Classical.choose_spec klP_ex s d hs hd
theorem laidOut_ : laidOutB Tryd.prog = true := by kernel_rfl
theorem rowP : (69 : TypeId) < Tryd.prog.types.size := of_decide_eq_true (by kernel_rfl)
theorem wideP : (match Tryd.prog.underlying 69 with | some (.array _ _) | some (.struct _) => true | _ => false) = true := by kernel_rfl
theorem ktP : Tryd.prog.keyTypeAt 3 69 = true := by kernel_rfl
theorem le10 : 3 + 1 ≤ 10000 := by omega
theorem lawP' : WideMaps.KeyLaw Tryd.prog 69 := by
  refine deep_law_laid (P := Tryd.prog) (k := 69) (m := 3) ?_ ?_ ?_ ?_ ?_
  · exact laidOut_
  · exact le10
  · exact rowP
  · exact ktP
  · kernel_rfl
theorem lawP : Keyed Tryd.prog 69 := by
  refine Keyed.of_law (P := Tryd.prog) (k := 69) ?_
  exact lawP'
theorem klP_key (p : ByteArray × List Int) (h : okP p) : WideAt.IsKeyLit (klP p) := by
  obtain ⟨s, d⟩ := p
  have e := keyP (s := s) (d := d) h.1 h.2
  have := Keyed.key lawP e
  exact this
theorem klP_inj (a b : ByteArray × List Int) (ha : okP a) (hb : okP b) (h : klP a = klP b) : a = b := by
  have e := lawP.inj (keyP ha.1 ha.2) (by rw [keyP hb.1 hb.2]; exact congrArg some h.symm)
  obtain ⟨h1, h2⟩ := pairV_inj e
  exact Prod.ext h1 h2
theorem zero_dig (w : World) : (zeroValue 27).run Tryd.prog w = .ok (digV zeroD) w := by kernel_rfl
theorem held_inj {a b : Value} (h : (DataW.held a : DataW Value) = .held b) : a = b := by injection h
/-- A look into the keys. -/
theorem look_keys {W : World} {b n : Nat} {D : DataW Value} {f : ByteArray → Option (List Int)} (h : W.ownsMap Tryd.prog 9 RD b n D) (hs : Says D klS okS f) {s : ByteArray} (ho : okS s) :
    (Instr.lookup 63 (.map (some b)) (.string s) true).run Tryd.prog W = .ok (.tuple #[digV ((f s).getD zeroD), .bool (f s).isSome]) W := by
  obtain ⟨v, ps, hr, hv⟩ := h.look_ok lawS Tryd.underlying63 (zero_dig W) (zd := .held (digV zeroD)) (zp := []) rfl (keyS ho)
  rw [hs.has s ho] at hr
  rw [hs.at_ s ho] at hv
  have e : v = digV ((f s).getD zeroD) := by
    unfold RD at hv
    have hv2 := (Prod.mk.inj (Option.some.inj hv)).1
    clear hv
    cases hf : f s with
    | none => rw [hf] at hv2; exact held_inj hv2
    | some x => rw [hf] at hv2; exact held_inj hv2
  rw [hr, e]
/-- A look into the seals. -/
theorem look_signed {W : World} {b n : Nat} {D : DataW Value} {f : ByteArray × List Int → Option (List Int)} (h : W.ownsMap Tryd.prog 69 RD b n D) (hs : Says D klP okP f) {s : ByteArray} {d : List Int} (ho : okS s) (hd : IsD d) :
    (Instr.lookup 64 (.map (some b)) (pairV s d) true).run Tryd.prog W = .ok (.tuple #[digV ((f (s, d)).getD zeroD), .bool (f (s, d)).isSome]) W := by
  obtain ⟨v, ps, hr, hv⟩ := h.look_ok lawP Tryd.underlying64 (zero_dig W) (zd := .held (digV zeroD)) (zp := []) rfl (keyP ho hd)
  rw [hs.has (s, d) ⟨ho, hd⟩] at hr
  rw [hs.at_ (s, d) ⟨ho, hd⟩] at hv
  have e : v = digV ((f (s, d)).getD zeroD) := by
    unfold RD at hv
    have hv2 := (Prod.mk.inj (Option.some.inj hv)).1
    clear hv
    cases hf : f (s, d) with
    | none => rw [hf] at hv2; exact held_inj hv2
    | some x => rw [hf] at hv2; exact held_inj hv2
  rw [hr, e]
theorem build_pair (s : ByteArray) (d : List Int) (hd : d.length = 32) (w : World) : (Instr.build 69 #[(0, .string s), (1, .agg (nums .u8 d).toArray)]).run Tryd.prog w = .ok (pairV s d) w := by
  match d, hd with
  | [a0, a1, a2, a3, a4, a5, a6, a7, a8, a9, a10, a11, a12, a13, a14, a15, a16, a17, a18, a19, a20, a21, a22, a23, a24, a25, a26, a27, a28, a29, a30, a31], _ =>
    exact run_build w 69 _ _ (by kernel_rfl)
end Go.Proofs.YtoigoiefnapokaaDoor.T
