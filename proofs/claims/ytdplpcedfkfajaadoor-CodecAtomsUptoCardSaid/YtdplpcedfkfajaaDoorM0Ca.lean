/- T0; GPure; GLaid; PureCo; GCApp; T3; GCLay: texts of this claim, laid together. -/
import Derived.Test.YtdplpcedfkfajaaDoorProg
import Derived.Below
import Derived.Deep.Draws
import Derived.Deep.AppendLies
import Derived.Maps.AppendAt
import Derived.OwnWalk
import Derived.Laws.BytesArg
import Derived.Laws.MakeOwn
import Derived.Laws.OwnMore
import Derived.Deep.OwnRows
import Derived.Tactics
import Derived.Lib.ConvBytes
import Derived.Laws.Slices
import Derived.WalkKit
import Derived.KernelRfl
import Derived.RowKit3
import Derived.Deep.LoopGhost
import Derived.Deep.QuietTactic
import Derived.BigQuiet
import Derived.WideLaws
import Derived.Deep.DeepCutAuto
import Derived.Deep.CutBlock
import Derived.Deep.RegionHeld3
import Derived.Laws.Rows
import Derived.Lib.AppendStr
import Derived.ArgAppend
import Derived.Laws.IdiomCopy
import Derived.OrdersHeld
import Derived.Laws.BitsLemmas
import Derived.RowKit
import Derived.Test.YtdplpcedfkfajaaDoorWWords
import Derived.Test.YtdplpcedfkfajaaDoorWLast
import Derived.Test.YtdplpcedfkfajaaDoorWTab
import Derived.Test.YtdplpcedfkfajaaDoorWEqStruct
import Derived.Test.YtdplpcedfkfajaaDoorWGuard
import Derived.Test.YtdplpcedfkfajaaDoorWRepsOne
import Derived.Test.YtdplpcedfkfajaaDoorWMore
import Derived.Test.YtdplpcedfkfajaaDoorWKept
import Derived.Lib.Bytealg
import Derived.Lib.Small
import Derived.Deep.DrawnRows
import Derived.Shelf.Abstract
import Derived.Lib.Walk
-- By a program of this session (wip/tools/myprint.py), out of the translation.
namespace Go.Proofs.YtdplpcedfkfajaaDoor.T
open Go.RowKit Go.Proofs.YtdplpcedfkfajaaDoorW.PrintWords Go.Proofs.YtdplpcedfkfajaaDoorW.PrintLast Go.Proofs.YtdplpcedfkfajaaDoorW.PrintMore
attribute [local go_sem] max2_int min2_int max_two min_two max_three min_three max_four min_four   -- for this text's walks alone
set_option linter.unusedVariables false
set_option linter.unusedSimpArgs false



def errW : Option Int → Value
  | none => .nilIface
  | some c => .iface 0 (.int .i64 c)
theorem errW_none : errW none = .nilIface := rfl
theorem errW_some (c : Int) : errW (some c) = .iface 0 (.int .i64 c) := rfl

theorem info5 : (Tryd.prog.info? 5).map (fun i => (i.zero, i.size, i.bytes)) = some (some (.int .u8 0), 1, 1) := by kernel_rfl
-- the values' own types
structure S23 where
  f0 : Int
  f1 : Int
  f2 : ByteArray
def z23 : S23 := ⟨(0 : Int), (0 : Int), (⟨#[]⟩ : ByteArray)⟩
def k23 : Kd S23 := Kd.iso (Kd.pair (Kd.int .i64) (Kd.pair (Kd.int .i64) Kd.string)) (fun x : S23 => (x.f0, x.f1, x.f2))
theorem k23_open {w : World} {x : S23} {cs : List Value} (h : k23.K w x cs) : cs = [.int .i64 x.f0, .int .i64 x.f1, .string x.f2] := by
  obtain ⟨_, _, rfl, rfl, ⟨_, _, rfl, rfl, rfl⟩⟩ := h
  exact rfl
theorem k23_mk (w : World) (x : S23)  : k23.K w x [.int .i64 x.f0, .int .i64 x.f1, .string x.f2] := ⟨[.int .i64 x.f0], [.int .i64 x.f1, .string x.f2], rfl, rfl, ⟨[.int .i64 x.f1], [.string x.f2], rfl, rfl, rfl⟩⟩
theorem k23_mkM (w : World) (base : Nat) (ok : Nat → Prop) (x : S23)  : k23.M w base ok x [.int .i64 x.f0, .int .i64 x.f1, .string x.f2] := ⟨[.int .i64 x.f0], [.int .i64 x.f1, .string x.f2], rfl, rfl, ⟨[.int .i64 x.f1], [.string x.f2], rfl, rfl, rfl⟩⟩
def rd_T23 (xs : List S23) (i : Int) : S23 := xs.getD i.toNat z23
theorem at_T23 {w : World} {A : Option Addr} {n : Nat} {xs : List S23} (h : Kd.C k23 w A n xs) (i : Int) (h0 : 0 ≤ i) (h1 : i < n) : ∃ ad , A = some ad ∧ w.cell? (ad.add (i.toNat * 3)) = some (.int .i64 (rd_T23 xs i).f0) ∧ w.cell? ⟨(ad.add (i.toNat * 3)).block, (ad.add (i.toNat * 3)).off + 1, none⟩ = some (.int .i64 (rd_T23 xs i).f1) ∧ w.cell? ⟨(ad.add (i.toNat * 3)).block, (ad.add (i.toNat * 3)).off + 2, none⟩ = some (.string (rd_T23 xs i).f2) := by
  obtain ⟨ad, c, e, _, hK, hc0⟩ := Kd.C_get h z23 i h0 h1
  have hc : ∀ j u, c[j]? = some u → w.cell? (ad.add (i.toNat * 3 + j)) = some u := hc0
  obtain rfl := k23_open hK
  exact ⟨ad, e, hc 0 _ rfl, by rw [← add_field _ _ 1 (by omega)]; exact hc 1 _ rfl, by rw [← add_field _ _ 2 (by omega)]; exact hc 2 _ rfl⟩

end Go.Proofs.YtdplpcedfkfajaaDoor.T
/- Plain functions on terms: what the given functions of package term compute. No machine in them. -/
set_option linter.unusedVariables false
namespace Go.Proofs.YtdplpcedfkfajaaDoor.T
open Go.RowKit Go.Proofs.YtdplpcedfkfajaaDoorW.PrintWords
abbrev Tm := S23
def isVar (t : Tm) : Bool := decide (t.f0 = 3) && (decide (0 ≤ t.f1) && (t.f2.toList == ([] : List UInt8)))
/-- An int's bounds. -/
def inI (x : Int) : Bool := decide (-9223372036854775808 ≤ x) && decide (x ≤ 9223372036854775807)
def okT (t : Tm) : Bool := inI t.f0 && (inI t.f1 && decide (t.f2.size ≤ 9223372036854775807))
def smallN : Nat := 1099511627776
def varsL (l : List Tm) (out : List Int) : List Int := l.foldl (fun out t => if isVar t && !out.contains t.f1 then out ++ [t.f1] else out) out
def term_Vars.f (a0_0 : Int) (a0_1 : Int) (a0_2 : ByteArray) (a0_3 : ByteArray) (l0_4 : List Tm) : Option (List Int) :=
  if l0_4.length < smallN then some (varsL (⟨a0_0, a0_1, a0_2⟩ :: l0_4) []) else none
end Go.Proofs.YtdplpcedfkfajaaDoor.T
-- By a program of this session (wip/tools/myprint.py).
namespace Go.Proofs.YtdplpcedfkfajaaDoor.T
open Go.RowKit Go.Proofs.YtdplpcedfkfajaaDoorW.PrintWords
/-- The listed variable hearsay/hearsayref03.behindTerm holds what its initialiser lays. -/
def Laid1 (w : World) : Prop := w.cell? ⟨1, 0, none⟩ = some (.int .i64 901) ∧ w.cell? ⟨1, 1, none⟩ = some (.int .i64 902) ∧ w.cell? ⟨1, 2, none⟩ = some (.string (⟨#[98, 101, 104, 105, 110, 100]⟩ : ByteArray))
theorem Laid1.up {w W : World} (h : Laid1 w) (hb : Below w.heap.size w W) : Laid1 W := ⟨pw_cell_below hb h.1, pw_cell_below hb h.2.1, pw_cell_below hb h.2.2⟩
/-- The listed variable hearsay/term.none holds what its initialiser lays. -/
def Laid2 (w : World) : Prop := w.cell? ⟨2, 0, none⟩ = some (.int .i64 0) ∧ w.cell? ⟨2, 1, none⟩ = some (.int .i64 0) ∧ w.cell? ⟨2, 2, none⟩ = some (.string (⟨#[]⟩ : ByteArray))
theorem Laid2.up {w W : World} (h : Laid2 w) (hb : Below w.heap.size w W) : Laid2 W := ⟨pw_cell_below hb h.1, pw_cell_below hb h.2.1, pw_cell_below hb h.2.2⟩
end Go.Proofs.YtdplpcedfkfajaaDoor.T
/- The codec, plainly: what is written, and what is read. No machine. -/
set_option linter.unusedVariables false
set_option linter.unusedSimpArgs false
namespace Go.Proofs.YtdplpcedfkfajaaDoor.T
open Go.RowKit Go.Lib Go.Proofs.YtdplpcedfkfajaaDoorW.PrintWords
/-- A number in n bytes, the greatest first. -/
def beI (v : Int) : Nat → List Int
  | 0 => []
  | n + 1 => (v / 2 ^ (8 * n)) % 256 :: beI v n
abbrev u64 (x : Int) : Int := IntKind.u64.wrap x
theorem u64_eq (x : Int) : u64 x = x % 18446744073709551616 := by simp [u64, IntKind.wrap, IntKind.bits, IntKind.signed]
def i64 (x : Int) : Int := wrap64 x
def encT (t : Tm) : List Int :=
  if t.f0 = 1 ∨ t.f0 = 3 then (t.f0 % 256) :: beI (u64 t.f1) 8
  else if t.f0 = 2 then (t.f0 % 256) :: ((t.f2.size : Int) % 256) :: bytesOf t.f2
  else [t.f0 % 256]
def encTs (l : List Tm) : List Int := l.flatMap encT
def encA (t : Tm) (nm : ByteArray) (l : List Tm) : List Int := encT t ++ (((nm.size : Int) % 256) :: bytesOf nm) ++ (((l.length : Int) % 256) :: encTs l)
theorem beI_len (v : Int) : ∀ n, (beI v n).length = n
  | 0 => rfl
  | n + 1 => by rw [beI, List.length_cons, beI_len v n]
/-- A reading: what is read and what is left, or the error. -/
abbrev Rd (α : Type) := List Int → Except Int (α × List Int)
def Rd.then {α β : Type} (r : Rd α) (f : α → Rd β) : Rd β := fun l => match r l with
  | .ok (x, l') => f x l'
  | .error e => .error e
def Rd.give {α : Type} (x : α) : Rd α := fun l => .ok (x, l)
def Rd.fail {α : Type} (e : Int) : Rd α := fun _ => .error e
def needR (c : Bool) (e : Int) : Rd Unit := if c then Rd.give () else Rd.fail e
def takeR (n : Nat) : Rd (List Int) := fun l => if n ≤ l.length then .ok (l.take n, l.drop n) else .error 61
def numOf (l : List Int) : Int := l.foldl (fun v c => v * 256 + c) 0
def numR (n : Nat) : Rd Int := (takeR n).then fun b => Rd.give (numOf b)
def smallR (lo hi : Int) : Rd Int := (numR 1).then fun n => (needR (decide (lo ≤ n) && decide (n ≤ hi)) 63).then fun _ => Rd.give n
def natR : Rd Int := (numR 8).then fun n => (needR (decide (n < 9223372036854775808)) 63).then fun _ => Rd.give n
abbrev strOf (l : List Int) : ByteArray := strOfNums l
/-- May the kind stand there? kinds: bit k for kind k. -/
def kindOk (kinds : Int) (k : Int) : Bool := decide (k ≤ 3) && (kinds / 2 ^ k.toNat % 2 == 1)
def termR (kinds least : Int) : Rd Tm := (numR 1).then fun k => (needR (kindOk kinds k) 63).then fun _ =>
  if k = 1 then (numR 8).then fun n => Rd.give ⟨1, i64 n, ⟨#[]⟩⟩
  else if k = 3 then natR.then fun n => Rd.give ⟨3, n, ⟨#[]⟩⟩
  else if k = 2 then (smallR least 64).then fun n => (takeR n.toNat).then fun b => Rd.give ⟨2, 0, strOf b⟩
  else Rd.give ⟨k, 0, ⟨#[]⟩⟩
def manyR {α : Type} (one : Rd α) : Nat → Rd (List α)
  | 0 => Rd.give []
  | n + 1 => one.then fun x => (manyR one n).then fun l => Rd.give (x :: l)
end Go.Proofs.YtdplpcedfkfajaaDoor.T
/- append onto a row of bytes: a byte, a text; where the new row lies; at a step of a region that draws. -/
set_option linter.unusedVariables false
set_option linter.unusedSimpArgs false
namespace Go.Proofs.YtdplpcedfkfajaaDoor.T
open Go.RowKit Go.Proofs.YtdplpcedfkfajaaDoorW.PrintWords Go.Proofs.YtdplpcedfkfajaaDoorW.PrintLast
/-- A row of bytes of the call's own, in a block that is ok. -/
abbrev Bt (W : World) (base : Nat) (ok : Nat → Prop) (v : Value) (xs : List Int) : Prop := Kd.R (Kd.int .u8) 5 W base ok v xs
theorem run_append_str_at {P : Program} (w : World) (base : Nat) (t u ty e : TypeId) (ht : P.underlying t = some (.slice e)) (hu : P.underlying u = some .string) (hinfo : (P.info? e).map (fun i => (i.zero, i.size, i.bytes)) = some (some (.int .u8 0), 1, 1))
    (v : Value) (xs : List Int) (hown : w.ownsRow base e 1 v xs.length (nums .u8 xs)) (s : ByteArray) (hl : xs.length + s.size ≤ 140737488355328) (hbase : base ≤ w.heap.size) :
    ∃ v' w', (Builtin.append_ #[t, u] ty #[v, .string s]).run P w = .ok v' w' ∧ w'.ownsRow base e 1 v' (xs ++ bytesOf s).length (nums .u8 (xs ++ bytesOf s)) ∧ w.grownBy w' v.ownBlock ∧ (v'.ownBlock = v.ownBlock ∨ v'.ownBlock = some w.heap.size) := by
  obtain ⟨i0, hi, hzz⟩ := Option.map_eq_some_iff.1 hinfo
  simp only [Prod.mk.injEq] at hzz
  obtain ⟨hz0, hz1, hz2⟩ := hzz
  obtain ⟨v', w', hr, ho, hg, _⟩ := Lib.run_append_own_string (P := P) w base t u ty e i0 ht hu hi hz0 hz1 hz2 v xs.length (nums .u8 xs) hown s (by simp only [maxLen]; omega) hl hbase
  have hl2 : (xs ++ bytesOf s).length = xs.length + s.size := by rw [List.length_append, bytesOf_length]
  have hc : nums .u8 (xs ++ bytesOf s) = nums .u8 xs ++ Lib.strCells s := by
    rw [nums_append]
    congr 1
    simp [nums, bytesOf, Lib.strCells]
  refine ⟨v', w', hr, by rw [hl2, hc]; exact ho, hg, ?_⟩
  rcases hown.2 with ⟨rfl, h0⟩ | ⟨g, cap, cur, rfl, hbg, hgk, hnc, hcm, hcs, htake⟩
  · have hxs : xs = [] := List.eq_nil_of_length_eq_zero h0
    subst hxs
    by_cases hs : s.size = 0
    · left
      rcases ho.2 with ⟨rfl, _⟩ | ⟨g, cap, cur, rfl, hbg, hgk, hnc, hcm, hcs, htake⟩
      · rfl
      · exfalso
        have hf := Lib.run_firstCells_string (P := P) w 1 s
        rw [hs] at hf
        have : (Builtin.append_ #[t, u] ty #[.slice none 0 0, .string s]).run P w = .ok (.slice none 0 0) w := by
          simp [Builtin.append_, run_underlying ht, run_underlying hu, sizeOf, typeInfo, hi, hz1, Builtin.lenOf, hs, hf]
        have h2 := hr.symm.trans this
        injection h2 with h2 _
        simp at h2
    · right
      have h2 := hr.symm.trans (run_append_nil_string (P := P) w t u ty e i0 (.int .u8 0) ht hu hi hz0 s (by omega) (by omega) (by rw [hz2]; omega))
      injection h2 with h2 _
      rw [h2]
      rfl
  · by_cases hroom : xs.length + s.size ≤ cap
    · left
      have h2 := hr.symm.trans (Lib.run_append_room_string (P := P) w t u ty e i0 ht hu hi hz1 g xs.length cap cur hgk s hroom (by omega))
      injection h2 with h2 _
      rw [h2]
      rfl
    · right
      have holds : ∀ j u, (nums .u8 xs)[j]? = some u → w.cell? ((⟨g, 0, none⟩ : Addr).add j) = some u := hown.cells (g := g) rfl
      have h2 := hr.symm.trans (Lib.run_append_grow_string (P := P) w t u ty e i0 (.int .u8 0) ht hu hi hz0 ⟨g, 0, none⟩ xs.length cap (nums .u8 xs) (by rw [hz1, nums_length]; simp) holds s (by omega) (by omega) (by rw [hz2]; exact growslice_fits (by omega) (by omega)))
      injection h2 with h2 _
      rw [h2]
      rfl
section
variable {P : Program} {ops : Array Oper} {o : Oper} {a : Act} {Q : Exit → Act → World → Prop}
theorem wp_append_bstr {W : World} {K : Act → World → Prop} (s x : Operand) (t u : TypeId) (ho : o.op = .call { callee := .builtin .append, args := #[s, x], argTypes := #[t, u] })
    (ht : P.underlying t = some (.slice 5)) (hu : P.underlying u = some .string) (hinfo : (P.info? 5).map (fun i => (i.zero, i.size, i.bytes)) = some (some (.int .u8 0), 1, 1))
    (base : Nat) (ok : Nat → Prop) (v : Value) (xs : List Int) (y : ByteArray) (hs : a.eval s = v) (hx : a.eval x = .string y)
    (HO : Bt W base ok v xs) (hfresh : ∀ k, W.heap.size ≤ k → ok k) (hbase : base ≤ W.heap.size) (hl : xs.length + y.size ≤ 140737488355328)
    (h : ∀ v1 w1, Bt w1 base ok v1 (xs ++ bytesOf y) → W.grownBy w1 v.ownBlock → K (a.put o.dst v1) w1) : o.wp P a W K Q := by
  obtain ⟨v', w', hr, h2, h3, h4⟩ := run_append_str_at (P := P) W base t u o.type 5 ht hu hinfo v xs (Kd.own_of_R HO) y hl hbase
  unfold Oper.wp execOp
  simp only [ho, resolve, invoke, builtin, Sem.run_bind, Sem.run_pure, Result.andThen_ok, List.map_toArray, List.map_cons, List.map_nil, hs, hx, hr]
  refine h v' w' (Kd.R_of_own (h1 := fun _ => rfl) h2 (fun k hk => ?_)) h3
  rcases h4 with h4 | h4
  · exact HO.1 k (h4 ▸ hk)
  · rw [h4] at hk
    exact hfresh k (by have := Option.some.inj hk; omega)
theorem step_append_bstr {W : World} {K : Act → World → Prop} {E : Prop} (hgd : o.guard = none) (s x : Operand) (t u : TypeId) (ho : o.op = .call { callee := .builtin .append, args := #[s, x], argTypes := #[t, u] })
    (ht : P.underlying t = some (.slice 5)) (hu : P.underlying u = some .string) (hinfo : (P.info? 5).map (fun i => (i.zero, i.size, i.bytes)) = some (some (.int .u8 0), 1, 1))
    (base : Nat) (ok : Nat → Prop) (v : Value) (xs : List Int) (y : ByteArray) (hs : a.eval s = v) (hx : a.eval x = .string y)
    (HO : Bt W base ok v xs) (hfresh : ∀ k, W.heap.size ≤ k → ok k) (hbase : base ≤ W.heap.size) (hl : xs.length + y.size ≤ 140737488355328)
    (h : ∀ v1 w1, Bt w1 base ok v1 (xs ++ bytesOf y) → W.grownBy w1 v.ownBlock → K (a.put o.dst v1) w1) : if Region.wanted o (yielded ops a.tmps) = true then Oper.wp P o a W K Q else E := by
  have hw : Region.wanted o (yielded ops a.tmps) = true := by simp [Region.wanted, hgd]
  rw [if_pos hw]
  exact wp_append_bstr s x t u ho ht hu hinfo base ok v xs y hs hx HO hfresh hbase hl h
/-- One byte, laid ahead into block g. -/
theorem wp_append_byte {W : World} {K : Act → World → Prop} (s x : Operand) (t : TypeId) (ho : o.op = .call { callee := .builtin .append, args := #[s, x], argTypes := #[t, t] })
    (ht : P.underlying t = some (.slice 5)) (hinfo : (P.info? 5).map (fun i => (i.zero, i.size, i.bytes)) = some (some (.int .u8 0), 1, 1))
    (base : Nat) (ok : Nat → Prop) (v : Value) (xs : List Int) (y : Int) (g : Nat) (hs : a.eval s = v) (hx : a.eval x = .slice (some ⟨g, 0, none⟩) 1 1) (hg : W.heap[g]? = some (.cells #[.int .u8 y] 5 (0, 0)))
    (HO : Bt W base ok v xs) (hfresh : ∀ k, W.heap.size ≤ k → ok k) (hbase : base ≤ W.heap.size) (hl : xs.length + 1 ≤ 140737488355328)
    (h : ∀ v1 w1, Bt w1 base ok v1 (xs ++ [y]) → W.grownBy w1 v.ownBlock → K (a.put o.dst v1) w1) : o.wp P a W K Q := by
  obtain ⟨i0, hi, hzz⟩ := Option.map_eq_some_iff.1 hinfo
  simp only [Prod.mk.injEq] at hzz
  obtain ⟨hz0, hz1, hz2⟩ := hzz
  refine wp_append_lies W s x t ho base 5 i0 (.int .u8 0) 1 1 ht hi hz0 hz1 hz2 rfl (by omega) v xs.length (nums .u8 xs) hs (Kd.own_of_R HO) ⟨g, 0, none⟩ 1 1 [.int .u8 y] hx rfl (World.news_of_block (cs := #[.int .u8 y]) hg) (by simp [Value.oneCell']) (by omega) (by simp only [maxLen]; omega) (by omega) hbase _ rfl ?_
  intro g1 cap w1 hown hgr hat hlt
  refine h _ w1 (Kd.R_of_own (h1 := fun _ => rfl) (by rw [List.length_append]; simpa [nums_append, nums, encs] using hown) (fun k hk => ?_)) hgr
  have hk' : g1 = k := by simpa [Value.ownBlock] using hk
  subst hk'
  rcases hat with hat | hat
  · exact HO.1 g1 hat
  · exact hfresh g1 (by omega)
theorem wpl_byte {W : World} {rest : List Oper} (hgd : o.guard = none) (s x : Operand) (t : TypeId) (ho : o.op = .call { callee := .builtin .append, args := #[s, x], argTypes := #[t, t] })
    (ht : P.underlying t = some (.slice 5)) (hinfo : (P.info? 5).map (fun i => (i.zero, i.size, i.bytes)) = some (some (.int .u8 0), 1, 1))
    (base : Nat) (ok : Nat → Prop) (v : Value) (xs : List Int) (y : Int) (hs : a.eval s = v) (hx : a.eval x = .slice (some ⟨W.heap.size, 0, none⟩) 1 1)
    (HO : Bt W base ok v xs) (hfresh : ∀ k, W.heap.size ≤ k → ok k) (hbase : base ≤ W.heap.size) (hl : xs.length + 1 ≤ 140737488355328)
    (h : ∀ v1 w1, Bt w1 base ok v1 (xs ++ [y]) → W.grownBy w1 v.ownBlock → wpList P ops Q rest (a.put o.dst v1) w1) : wpList P ops Q (o :: rest) a (W.alloc (.cells #[.int .u8 y] 5)) :=
  wpList_plain hgd fun K hK => wp_append_byte s x t ho ht hinfo base ok v xs y W.heap.size hs hx (heap_alloc_new W _) (Kd.R_alloc HO _) (fun k hk => hfresh k (by simp at hk; omega)) (by simp; omega) hl
    (fun v1 w1 h1 h2 => hK _ _ (h v1 w1 h1 (World.grownBy.trans (World.grownBy_alloc W _ _) h2)))
theorem step_append_byte {W : World} {K : Act → World → Prop} {E : Prop} (hgd : o.guard = none) (s x : Operand) (t : TypeId) (ho : o.op = .call { callee := .builtin .append, args := #[s, x], argTypes := #[t, t] })
    (ht : P.underlying t = some (.slice 5)) (hinfo : (P.info? 5).map (fun i => (i.zero, i.size, i.bytes)) = some (some (.int .u8 0), 1, 1))
    (base : Nat) (ok : Nat → Prop) (v : Value) (xs : List Int) (y : Int) (g : Nat) (hs : a.eval s = v) (hx : a.eval x = .slice (some ⟨g, 0, none⟩) 1 1) (hg : W.heap[g]? = some (.cells #[.int .u8 y] 5 (0, 0)))
    (HO : Bt W base ok v xs) (hfresh : ∀ k, W.heap.size ≤ k → ok k) (hbase : base ≤ W.heap.size) (hl : xs.length + 1 ≤ 140737488355328)
    (h : ∀ v1 w1, Bt w1 base ok v1 (xs ++ [y]) → W.grownBy w1 v.ownBlock → K (a.put o.dst v1) w1) : if Region.wanted o (yielded ops a.tmps) = true then Oper.wp P o a W K Q else E := by
  have hw : Region.wanted o (yielded ops a.tmps) = true := by simp [Region.wanted, hgd]
  rw [if_pos hw]
  exact wp_append_byte s x t ho ht hinfo base ok v xs y g hs hx hg HO hfresh hbase hl h
end
end Go.Proofs.YtdplpcedfkfajaaDoor.T
-- By a program of this session (wip/tools/myprint.py), out of the translation.
namespace Go.Proofs.YtdplpcedfkfajaaDoor.T
open Go.RowKit Go.Proofs.YtdplpcedfkfajaaDoorW.PrintWords Go.Proofs.YtdplpcedfkfajaaDoorW.PrintLast Go.Proofs.YtdplpcedfkfajaaDoorW.PrintMore
attribute [local go_sem] max2_int min2_int max_two min_two max_three min_three max_four min_four   -- for this text's walks alone
set_option linter.unusedVariables false
set_option linter.unusedSimpArgs false

def term_Const.f (a0_0 : Int) (a0_1 : Int) (a0_2 : ByteArray) : Option (Bool) := if a0_0 = 1 then (some (a0_2.toList == ([] : List UInt8))) else (if a0_0 = 2 then (if a0_1 = 0 then (some (decide ((a0_2.size : Int) ≤ 64))) else (some false)) else (some false))
set_option maxHeartbeats 8000000 in
set_option maxRecDepth 100000 in
theorem term_Const.calls (a0_0 : Int) (a0_1 : Int) (a0_2 : ByteArray) (r : Bool) (w : World) (h : term_Const.f a0_0 a0_1 a0_2 = some r) :
    Calls Tryd.prog 58 #[.agg #[.int .i64 a0_0, .int .i64 a0_1, .string a0_2]] w fun e w' => e = .returned (.bool r) ∧ Below w.heap.size w w' := by
  have hu23 := Tryd.underlying23
  have HB := Aside0.mk (Below.refl w.heap.size w)
  have H : (if a0_0 = 1 then (some (a0_2.toList == ([] : List UInt8))) else (if a0_0 = 2 then (if a0_1 = 0 then (some (decide ((a0_2.size : Int) ≤ 64))) else (some false)) else (some false))) = some r := h
  clear h
  by_cases c2 : a0_0 = 1
  · rw [if_pos c2] at H
    have c2b0 : (a0_0 == 1) = true := beq_iff_eq.mpr c2
    have c2b1 : (a0_0 != 1) = false := bne_eq_false_iff_eq.mpr c2
    clear c2
    obtain rfl := Option.some.inj H
    go_enter Tryd.func58, Tryd.ntmps58
    go_wp2_with (first | ((with_reducible refine gate_dst (N := 1) rfl ?_); (try (refine gate_guard (by rfl) ?_; dsimp only)); refine box_event ?hg (N := 1) ?hd (cs := #[.int .i64 a0_0, .int .i64 a0_1, .string a0_2]) (t := 23) ?hr ?_; (case hd => rfl); (case hg => rfl); (case hr => first | (go_simp; done) | (go_simp; rfl)); intro gb103 hg w3 hbox hb; have n0_ := Aside0.mk (below_step (by repeat (first | (with_reducible first | exact HB.out | apply below_alloc | apply pw_below_drewN | apply below_drew1) | exact HB.out)) hb); have n1_ := Aside0.mk (hbox); have n2_ := Aside0.mk ((by rw [hg]; exact (below_size (by repeat (first | (with_reducible first | exact HB.out | apply below_alloc | apply pw_below_drewN | apply below_drew1) | exact HB.out))) : w.heap.size ≤ gb103)); have n3_ := Aside0.mk ((by rw [hg]; exact (below_size (by repeat (first | (with_reducible first | exact HB.out | apply below_alloc | apply pw_below_drewN | apply below_drew1) | exact HB.out))) : w.heap.size ≤ gb103)); clear HB; have HB := n0_; have BK103 := n1_; have GW103 := n2_; have GE103 := n3_; clear n0_ n1_ n2_ n3_; clear hb hbox hg; have hcz4_0 : w3.cell? ⟨gb103, 0, none⟩ = some (.int .i64 a0_0) := (blk_cell BK103.out 0).trans rfl; have hcz4_1 : w3.cell? ⟨gb103, 1, none⟩ = some (.int .i64 a0_1) := (blk_cell BK103.out 1).trans rfl; have hcz4_2 : w3.cell? ⟨gb103, 2, none⟩ = some (.string a0_2) := (blk_cell BK103.out 2).trans rfl; have hfz4_0 := blk_frozen BK103.out 0; have hfz4_1 := blk_frozen BK103.out 1; have hfz4_2 := blk_frozen BK103.out 2))
    go_ret
    exact ⟨by first | rfl | (simp [errW_none, errW_some] <;> rfl) | (simp [errW_none, errW_some, bne, show ∀ l_ : List UInt8, (l_ == []) = l_.isEmpty from fun l_ => by cases l_ <;> rfl]; done) | (simp [*, errW_none, errW_some] <;> rfl), by repeat (first | (with_reducible first | exact HB.out | apply below_alloc | apply pw_below_drewN | apply below_drew1 | refine below_set ?_ GE103.out) | exact HB.out)⟩
  · rw [if_neg c2] at H
    have c2b0 : (a0_0 == 1) = false := beq_eq_false_iff_ne.mpr c2
    have c2b1 : (a0_0 != 1) = true := bne_iff_ne.mpr c2
    by_cases c5 : a0_0 = 2
    · rw [if_pos c5] at H
      have c5b0 : (a0_0 == 2) = true := beq_iff_eq.mpr c5
      have c5b1 : (a0_0 != 2) = false := bne_eq_false_iff_eq.mpr c5
      clear c5
      by_cases c6 : a0_1 = 0
      · rw [if_pos c6] at H
        have c6b0 : (a0_1 == 0) = true := beq_iff_eq.mpr c6
        have c6b1 : (a0_1 != 0) = false := bne_eq_false_iff_eq.mpr c6
        clear c6
        obtain rfl := Option.some.inj H
        go_enter Tryd.func58, Tryd.ntmps58
        go_wp2_with (first | ((with_reducible refine gate_dst (N := 1) rfl ?_); (try (refine gate_guard (by rfl) ?_; dsimp only)); refine box_event ?hg (N := 1) ?hd (cs := #[.int .i64 a0_0, .int .i64 a0_1, .string a0_2]) (t := 23) ?hr ?_; (case hd => rfl); (case hg => rfl); (case hr => first | (go_simp; done) | (go_simp; rfl)); intro gb103 hg w7 hbox hb; have n0_ := Aside0.mk (below_step (by repeat (first | (with_reducible first | exact HB.out | apply below_alloc | apply pw_below_drewN | apply below_drew1) | exact HB.out)) hb); have n1_ := Aside0.mk (hbox); have n2_ := Aside0.mk ((by rw [hg]; exact (below_size (by repeat (first | (with_reducible first | exact HB.out | apply below_alloc | apply pw_below_drewN | apply below_drew1) | exact HB.out))) : w.heap.size ≤ gb103)); have n3_ := Aside0.mk ((by rw [hg]; exact (below_size (by repeat (first | (with_reducible first | exact HB.out | apply below_alloc | apply pw_below_drewN | apply below_drew1) | exact HB.out))) : w.heap.size ≤ gb103)); clear HB; have HB := n0_; have BK103 := n1_; have GW103 := n2_; have GE103 := n3_; clear n0_ n1_ n2_ n3_; clear hb hbox hg; have hcz8_0 : w7.cell? ⟨gb103, 0, none⟩ = some (.int .i64 a0_0) := (blk_cell BK103.out 0).trans rfl; have hcz8_1 : w7.cell? ⟨gb103, 1, none⟩ = some (.int .i64 a0_1) := (blk_cell BK103.out 1).trans rfl; have hcz8_2 : w7.cell? ⟨gb103, 2, none⟩ = some (.string a0_2) := (blk_cell BK103.out 2).trans rfl; have hfz8_0 := blk_frozen BK103.out 0; have hfz8_1 := blk_frozen BK103.out 1; have hfz8_2 := blk_frozen BK103.out 2))
        go_ret
        exact ⟨by first | rfl | (simp [errW_none, errW_some] <;> rfl) | (simp [errW_none, errW_some, bne, show ∀ l_ : List UInt8, (l_ == []) = l_.isEmpty from fun l_ => by cases l_ <;> rfl]; done) | (simp [*, errW_none, errW_some] <;> rfl), by repeat (first | (with_reducible first | exact HB.out | apply below_alloc | apply pw_below_drewN | apply below_drew1 | refine below_set ?_ GE103.out) | exact HB.out)⟩
      · rw [if_neg c6] at H
        have c6b0 : (a0_1 == 0) = false := beq_eq_false_iff_ne.mpr c6
        have c6b1 : (a0_1 != 0) = true := bne_iff_ne.mpr c6
        obtain rfl := Option.some.inj H
        go_enter Tryd.func58, Tryd.ntmps58
        go_wp2_with (first | ((with_reducible refine gate_dst (N := 1) rfl ?_); (try (refine gate_guard (by rfl) ?_; dsimp only)); refine box_event ?hg (N := 1) ?hd (cs := #[.int .i64 a0_0, .int .i64 a0_1, .string a0_2]) (t := 23) ?hr ?_; (case hd => rfl); (case hg => rfl); (case hr => first | (go_simp; done) | (go_simp; rfl)); intro gb103 hg w9 hbox hb; have n0_ := Aside0.mk (below_step (by repeat (first | (with_reducible first | exact HB.out | apply below_alloc | apply pw_below_drewN | apply below_drew1) | exact HB.out)) hb); have n1_ := Aside0.mk (hbox); have n2_ := Aside0.mk ((by rw [hg]; exact (below_size (by repeat (first | (with_reducible first | exact HB.out | apply below_alloc | apply pw_below_drewN | apply below_drew1) | exact HB.out))) : w.heap.size ≤ gb103)); have n3_ := Aside0.mk ((by rw [hg]; exact (below_size (by repeat (first | (with_reducible first | exact HB.out | apply below_alloc | apply pw_below_drewN | apply below_drew1) | exact HB.out))) : w.heap.size ≤ gb103)); clear HB; have HB := n0_; have BK103 := n1_; have GW103 := n2_; have GE103 := n3_; clear n0_ n1_ n2_ n3_; clear hb hbox hg; have hcz10_0 : w9.cell? ⟨gb103, 0, none⟩ = some (.int .i64 a0_0) := (blk_cell BK103.out 0).trans rfl; have hcz10_1 : w9.cell? ⟨gb103, 1, none⟩ = some (.int .i64 a0_1) := (blk_cell BK103.out 1).trans rfl; have hcz10_2 : w9.cell? ⟨gb103, 2, none⟩ = some (.string a0_2) := (blk_cell BK103.out 2).trans rfl; have hfz10_0 := blk_frozen BK103.out 0; have hfz10_1 := blk_frozen BK103.out 1; have hfz10_2 := blk_frozen BK103.out 2))
        go_ret
        exact ⟨by first | rfl | (simp [errW_none, errW_some] <;> rfl) | (simp [errW_none, errW_some, bne, show ∀ l_ : List UInt8, (l_ == []) = l_.isEmpty from fun l_ => by cases l_ <;> rfl]; done) | (simp [*, errW_none, errW_some] <;> rfl), by repeat (first | (with_reducible first | exact HB.out | apply below_alloc | apply pw_below_drewN | apply below_drew1 | refine below_set ?_ GE103.out) | exact HB.out)⟩
    · rw [if_neg c5] at H
      have c5b0 : (a0_0 == 2) = false := beq_eq_false_iff_ne.mpr c5
      have c5b1 : (a0_0 != 2) = true := bne_iff_ne.mpr c5
      obtain rfl := Option.some.inj H
      go_enter Tryd.func58, Tryd.ntmps58
      go_wp2_with (first | ((with_reducible refine gate_dst (N := 1) rfl ?_); (try (refine gate_guard (by rfl) ?_; dsimp only)); refine box_event ?hg (N := 1) ?hd (cs := #[.int .i64 a0_0, .int .i64 a0_1, .string a0_2]) (t := 23) ?hr ?_; (case hd => rfl); (case hg => rfl); (case hr => first | (go_simp; done) | (go_simp; rfl)); intro gb103 hg w11 hbox hb; have n0_ := Aside0.mk (below_step (by repeat (first | (with_reducible first | exact HB.out | apply below_alloc | apply pw_below_drewN | apply below_drew1) | exact HB.out)) hb); have n1_ := Aside0.mk (hbox); have n2_ := Aside0.mk ((by rw [hg]; exact (below_size (by repeat (first | (with_reducible first | exact HB.out | apply below_alloc | apply pw_below_drewN | apply below_drew1) | exact HB.out))) : w.heap.size ≤ gb103)); have n3_ := Aside0.mk ((by rw [hg]; exact (below_size (by repeat (first | (with_reducible first | exact HB.out | apply below_alloc | apply pw_below_drewN | apply below_drew1) | exact HB.out))) : w.heap.size ≤ gb103)); clear HB; have HB := n0_; have BK103 := n1_; have GW103 := n2_; have GE103 := n3_; clear n0_ n1_ n2_ n3_; clear hb hbox hg; have hcz12_0 : w11.cell? ⟨gb103, 0, none⟩ = some (.int .i64 a0_0) := (blk_cell BK103.out 0).trans rfl; have hcz12_1 : w11.cell? ⟨gb103, 1, none⟩ = some (.int .i64 a0_1) := (blk_cell BK103.out 1).trans rfl; have hcz12_2 : w11.cell? ⟨gb103, 2, none⟩ = some (.string a0_2) := (blk_cell BK103.out 2).trans rfl; have hfz12_0 := blk_frozen BK103.out 0; have hfz12_1 := blk_frozen BK103.out 1; have hfz12_2 := blk_frozen BK103.out 2))
      go_ret
      exact ⟨by first | rfl | (simp [errW_none, errW_some] <;> rfl) | (simp [errW_none, errW_some, bne, show ∀ l_ : List UInt8, (l_ == []) = l_.isEmpty from fun l_ => by cases l_ <;> rfl]; done) | (simp [*, errW_none, errW_some] <;> rfl), by repeat (first | (with_reducible first | exact HB.out | apply below_alloc | apply pw_below_drewN | apply below_drew1 | refine below_set ?_ GE103.out) | exact HB.out)⟩

def term_Principal.f (a0_0 : Int) (a0_1 : Int) (a0_2 : ByteArray) : Option (Bool) := (term_Const.f a0_0 a0_1 a0_2).bind fun t105 => (if t105 = true then (if a0_0 = 2 then (some (a0_2.toList != ([] : List UInt8))) else (some false)) else (some false))
set_option maxHeartbeats 8000000 in
set_option maxRecDepth 100000 in
theorem term_Principal.calls (a0_0 : Int) (a0_1 : Int) (a0_2 : ByteArray) (r : Bool) (w : World) (h : term_Principal.f a0_0 a0_1 a0_2 = some r) :
    Calls Tryd.prog 54 #[.agg #[.int .i64 a0_0, .int .i64 a0_1, .string a0_2]] w fun e w' => e = .returned (.bool r) ∧ Below w.heap.size w w' := by
  have hu23 := Tryd.underlying23
  have HB := Aside0.mk (Below.refl w.heap.size w)
  have H : ((term_Const.f a0_0 a0_1 a0_2).bind fun t105 => (if t105 = true then (if a0_0 = 2 then (some (a0_2.toList != ([] : List UInt8))) else (some false)) else (some false))) = some r := h
  clear h
  replace H := Option.bind_eq_some_iff.mp H
  obtain ⟨t105, A20, H⟩ := H
  replace H : (if t105 = true then (if a0_0 = 2 then (some (a0_2.toList != ([] : List UInt8))) else (some false)) else (some false)) = some r := H
  have A2 := Aside0.mk A20
  clear A20
  by_cases c3 : t105 = true
  · subst c3
    have H1 : (if a0_0 = 2 then (some (a0_2.toList != ([] : List UInt8))) else (some false)) = some r := by rw [if_pos rfl] at H; exact H
    clear H
    have H := H1
    clear H1
    by_cases c4 : a0_0 = 2
    · rw [if_pos c4] at H
      have c4b0 : (a0_0 == 2) = true := beq_iff_eq.mpr c4
      have c4b1 : (a0_0 != 2) = false := bne_eq_false_iff_eq.mpr c4
      clear c4
      obtain rfl := Option.some.inj H
      go_enter Tryd.func54, Tryd.ntmps54
      go_wp2_with (first | ((with_reducible refine gate_dst (N := 1) rfl ?_); refine box_event ?hg (N := 1) ?hd (cs := #[.int .i64 a0_0, .int .i64 a0_1, .string a0_2]) (t := 23) ?hr ?_; (case hd => rfl); (case hg => rfl); (case hr => first | (go_simp; done) | (go_simp; rfl)); intro gb104 hg w5 hbox hb; have n0_ := Aside0.mk (below_step (by repeat (first | (with_reducible first | exact HB.out | apply below_alloc | apply pw_below_drewN | apply below_drew1) | exact HB.out)) hb); have n1_ := Aside0.mk (hbox); have n2_ := Aside0.mk ((by rw [hg]; exact (below_size (by repeat (first | (with_reducible first | exact HB.out | apply below_alloc | apply pw_below_drewN | apply below_drew1) | exact HB.out))) : w.heap.size ≤ gb104)); have n3_ := Aside0.mk ((by rw [hg]; exact (below_size (by repeat (first | (with_reducible first | exact HB.out | apply below_alloc | apply pw_below_drewN | apply below_drew1) | exact HB.out))) : w.heap.size ≤ gb104)); clear HB; have HB := n0_; have BK104 := n1_; have GW104 := n2_; have GE104 := n3_; clear n0_ n1_ n2_ n3_; clear hb hbox hg; have hcz6_0 : w5.cell? ⟨gb104, 0, none⟩ = some (.int .i64 a0_0) := (blk_cell BK104.out 0).trans rfl; have hcz6_1 : w5.cell? ⟨gb104, 1, none⟩ = some (.int .i64 a0_1) := (blk_cell BK104.out 1).trans rfl; have hcz6_2 : w5.cell? ⟨gb104, 2, none⟩ = some (.string a0_2) := (blk_cell BK104.out 2).trans rfl; have hfz6_0 := blk_frozen BK104.out 0; have hfz6_1 := blk_frozen BK104.out 1; have hfz6_2 := blk_frozen BK104.out 2) | ((with_reducible refine gate_callee (f := 58) rfl ?_); refine goesL_ (some 4) rfl rfl Tryd.func58 (by kernel_rfl) rfl #[.agg #[.int .i64 a0_0, .int .i64 a0_1, .string a0_2]] rfl (by (try simp only [List.map_toArray, List.map_cons, List.map_nil]); first | done | rfl | (simp only [List.length_drop, List.length_take]; rfl)) ?_; (with_reducible refine (term_Const.calls a0_0 a0_1 a0_2 true _ A2.out).mono ?_); rintro e w7 ⟨rfl, hb⟩; refine ⟨_, rfl, ?_⟩; have n0_ := Aside0.mk (blk_below (g := gb104) (o := .cells #[.int .i64 a0_0, .int .i64 a0_1, .string a0_2] 23 (0, 0)) (by (with_reducible repeat (first | refine blk_drewN ?_ _ | refine blk_drew ?_ | refine blk_alloc ?_ _)); exact BK104.out) hb); have n1_ := Aside0.mk (below_step (by repeat (first | (with_reducible first | exact HB.out | apply below_alloc | apply pw_below_drewN | apply below_drew1 | refine below_set ?_ GE104.out) | exact HB.out)) hb); clear BK104; clear HB; have BK104 := n0_; have HB := n1_; clear n0_ n1_; (try clear hb); (try clear hb2); (try clear hk); (try clear hi); have hcz8_0 : w7.cell? ⟨gb104, 0, none⟩ = some (.int .i64 a0_0) := (blk_cell BK104.out 0).trans rfl; have hcz8_1 : w7.cell? ⟨gb104, 1, none⟩ = some (.int .i64 a0_1) := (blk_cell BK104.out 1).trans rfl; have hcz8_2 : w7.cell? ⟨gb104, 2, none⟩ = some (.string a0_2) := (blk_cell BK104.out 2).trans rfl; have hfz8_0 := blk_frozen BK104.out 0; have hfz8_1 := blk_frozen BK104.out 1; have hfz8_2 := blk_frozen BK104.out 2))
      go_ret
      exact ⟨by first | rfl | (simp [errW_none, errW_some] <;> rfl) | (simp [errW_none, errW_some, bne, show ∀ l_ : List UInt8, (l_ == []) = l_.isEmpty from fun l_ => by cases l_ <;> rfl]; done) | (simp [*, errW_none, errW_some] <;> rfl), by repeat (first | (with_reducible first | exact HB.out | apply below_alloc | apply pw_below_drewN | apply below_drew1 | refine below_set ?_ GE104.out) | exact HB.out)⟩
    · rw [if_neg c4] at H
      have c4b0 : (a0_0 == 2) = false := beq_eq_false_iff_ne.mpr c4
      have c4b1 : (a0_0 != 2) = true := bne_iff_ne.mpr c4
      obtain rfl := Option.some.inj H
      go_enter Tryd.func54, Tryd.ntmps54
      go_wp2_with (first | ((with_reducible refine gate_dst (N := 1) rfl ?_); refine box_event ?hg (N := 1) ?hd (cs := #[.int .i64 a0_0, .int .i64 a0_1, .string a0_2]) (t := 23) ?hr ?_; (case hd => rfl); (case hg => rfl); (case hr => first | (go_simp; done) | (go_simp; rfl)); intro gb104 hg w9 hbox hb; have n0_ := Aside0.mk (below_step (by repeat (first | (with_reducible first | exact HB.out | apply below_alloc | apply pw_below_drewN | apply below_drew1) | exact HB.out)) hb); have n1_ := Aside0.mk (hbox); have n2_ := Aside0.mk ((by rw [hg]; exact (below_size (by repeat (first | (with_reducible first | exact HB.out | apply below_alloc | apply pw_below_drewN | apply below_drew1) | exact HB.out))) : w.heap.size ≤ gb104)); have n3_ := Aside0.mk ((by rw [hg]; exact (below_size (by repeat (first | (with_reducible first | exact HB.out | apply below_alloc | apply pw_below_drewN | apply below_drew1) | exact HB.out))) : w.heap.size ≤ gb104)); clear HB; have HB := n0_; have BK104 := n1_; have GW104 := n2_; have GE104 := n3_; clear n0_ n1_ n2_ n3_; clear hb hbox hg; have hcz10_0 : w9.cell? ⟨gb104, 0, none⟩ = some (.int .i64 a0_0) := (blk_cell BK104.out 0).trans rfl; have hcz10_1 : w9.cell? ⟨gb104, 1, none⟩ = some (.int .i64 a0_1) := (blk_cell BK104.out 1).trans rfl; have hcz10_2 : w9.cell? ⟨gb104, 2, none⟩ = some (.string a0_2) := (blk_cell BK104.out 2).trans rfl; have hfz10_0 := blk_frozen BK104.out 0; have hfz10_1 := blk_frozen BK104.out 1; have hfz10_2 := blk_frozen BK104.out 2) | ((with_reducible refine gate_callee (f := 58) rfl ?_); refine goesL_ (some 4) rfl rfl Tryd.func58 (by kernel_rfl) rfl #[.agg #[.int .i64 a0_0, .int .i64 a0_1, .string a0_2]] rfl (by (try simp only [List.map_toArray, List.map_cons, List.map_nil]); first | done | rfl | (simp only [List.length_drop, List.length_take]; rfl)) ?_; (with_reducible refine (term_Const.calls a0_0 a0_1 a0_2 true _ A2.out).mono ?_); rintro e w11 ⟨rfl, hb⟩; refine ⟨_, rfl, ?_⟩; have n0_ := Aside0.mk (blk_below (g := gb104) (o := .cells #[.int .i64 a0_0, .int .i64 a0_1, .string a0_2] 23 (0, 0)) (by (with_reducible repeat (first | refine blk_drewN ?_ _ | refine blk_drew ?_ | refine blk_alloc ?_ _)); exact BK104.out) hb); have n1_ := Aside0.mk (below_step (by repeat (first | (with_reducible first | exact HB.out | apply below_alloc | apply pw_below_drewN | apply below_drew1 | refine below_set ?_ GE104.out) | exact HB.out)) hb); clear BK104; clear HB; have BK104 := n0_; have HB := n1_; clear n0_ n1_; (try clear hb); (try clear hb2); (try clear hk); (try clear hi); have hcz12_0 : w11.cell? ⟨gb104, 0, none⟩ = some (.int .i64 a0_0) := (blk_cell BK104.out 0).trans rfl; have hcz12_1 : w11.cell? ⟨gb104, 1, none⟩ = some (.int .i64 a0_1) := (blk_cell BK104.out 1).trans rfl; have hcz12_2 : w11.cell? ⟨gb104, 2, none⟩ = some (.string a0_2) := (blk_cell BK104.out 2).trans rfl; have hfz12_0 := blk_frozen BK104.out 0; have hfz12_1 := blk_frozen BK104.out 1; have hfz12_2 := blk_frozen BK104.out 2))
      go_ret
      exact ⟨by first | rfl | (simp [errW_none, errW_some] <;> rfl) | (simp [errW_none, errW_some, bne, show ∀ l_ : List UInt8, (l_ == []) = l_.isEmpty from fun l_ => by cases l_ <;> rfl]; done) | (simp [*, errW_none, errW_some] <;> rfl), by repeat (first | (with_reducible first | exact HB.out | apply below_alloc | apply pw_below_drewN | apply below_drew1 | refine below_set ?_ GE104.out) | exact HB.out)⟩
  · replace c3 := Bool.eq_false_iff.mpr c3
    subst c3
    have H1 : (some false) = some r := by rw [if_neg (show ¬ (false = true) by decide)] at H; exact H
    clear H
    have H := H1
    clear H1
    obtain rfl := Option.some.inj H
    go_enter Tryd.func54, Tryd.ntmps54
    go_wp2_with (first | ((with_reducible refine gate_dst (N := 1) rfl ?_); refine box_event ?hg (N := 1) ?hd (cs := #[.int .i64 a0_0, .int .i64 a0_1, .string a0_2]) (t := 23) ?hr ?_; (case hd => rfl); (case hg => rfl); (case hr => first | (go_simp; done) | (go_simp; rfl)); intro gb104 hg w13 hbox hb; have n0_ := Aside0.mk (below_step (by repeat (first | (with_reducible first | exact HB.out | apply below_alloc | apply pw_below_drewN | apply below_drew1) | exact HB.out)) hb); have n1_ := Aside0.mk (hbox); have n2_ := Aside0.mk ((by rw [hg]; exact (below_size (by repeat (first | (with_reducible first | exact HB.out | apply below_alloc | apply pw_below_drewN | apply below_drew1) | exact HB.out))) : w.heap.size ≤ gb104)); have n3_ := Aside0.mk ((by rw [hg]; exact (below_size (by repeat (first | (with_reducible first | exact HB.out | apply below_alloc | apply pw_below_drewN | apply below_drew1) | exact HB.out))) : w.heap.size ≤ gb104)); clear HB; have HB := n0_; have BK104 := n1_; have GW104 := n2_; have GE104 := n3_; clear n0_ n1_ n2_ n3_; clear hb hbox hg; have hcz14_0 : w13.cell? ⟨gb104, 0, none⟩ = some (.int .i64 a0_0) := (blk_cell BK104.out 0).trans rfl; have hcz14_1 : w13.cell? ⟨gb104, 1, none⟩ = some (.int .i64 a0_1) := (blk_cell BK104.out 1).trans rfl; have hcz14_2 : w13.cell? ⟨gb104, 2, none⟩ = some (.string a0_2) := (blk_cell BK104.out 2).trans rfl; have hfz14_0 := blk_frozen BK104.out 0; have hfz14_1 := blk_frozen BK104.out 1; have hfz14_2 := blk_frozen BK104.out 2) | ((with_reducible refine gate_callee (f := 58) rfl ?_); refine goesL_ (some 4) rfl rfl Tryd.func58 (by kernel_rfl) rfl #[.agg #[.int .i64 a0_0, .int .i64 a0_1, .string a0_2]] rfl (by (try simp only [List.map_toArray, List.map_cons, List.map_nil]); first | done | rfl | (simp only [List.length_drop, List.length_take]; rfl)) ?_; (with_reducible refine (term_Const.calls a0_0 a0_1 a0_2 false _ A2.out).mono ?_); rintro e w15 ⟨rfl, hb⟩; refine ⟨_, rfl, ?_⟩; have n0_ := Aside0.mk (blk_below (g := gb104) (o := .cells #[.int .i64 a0_0, .int .i64 a0_1, .string a0_2] 23 (0, 0)) (by (with_reducible repeat (first | refine blk_drewN ?_ _ | refine blk_drew ?_ | refine blk_alloc ?_ _)); exact BK104.out) hb); have n1_ := Aside0.mk (below_step (by repeat (first | (with_reducible first | exact HB.out | apply below_alloc | apply pw_below_drewN | apply below_drew1 | refine below_set ?_ GE104.out) | exact HB.out)) hb); clear BK104; clear HB; have BK104 := n0_; have HB := n1_; clear n0_ n1_; (try clear hb); (try clear hb2); (try clear hk); (try clear hi)))
    go_ret
    exact ⟨by first | rfl | (simp [errW_none, errW_some] <;> rfl) | (simp [errW_none, errW_some, bne, show ∀ l_ : List UInt8, (l_ == []) = l_.isEmpty from fun l_ => by cases l_ <;> rfl]; done) | (simp [*, errW_none, errW_some] <;> rfl), by repeat (first | (with_reducible first | exact HB.out | apply below_alloc | apply pw_below_drewN | apply below_drew1 | refine below_set ?_ GE104.out) | exact HB.out)⟩

def term_Variable.f (a0_0 : Int) (a0_1 : Int) (a0_2 : ByteArray) : Option (Bool) := if a0_0 = 3 then (if a0_1 ≥ 0 then (some (a0_2.toList == ([] : List UInt8))) else (some false)) else (some false)
set_option maxHeartbeats 8000000 in
set_option maxRecDepth 100000 in
theorem term_Variable.calls (a0_0 : Int) (a0_1 : Int) (a0_2 : ByteArray) (r : Bool) (w : World) (h : term_Variable.f a0_0 a0_1 a0_2 = some r) :
    Calls Tryd.prog 55 #[.agg #[.int .i64 a0_0, .int .i64 a0_1, .string a0_2]] w fun e w' => e = .returned (.bool r) ∧ Below w.heap.size w w' := by
  have hu23 := Tryd.underlying23
  have HB := Aside0.mk (Below.refl w.heap.size w)
  have H : (if a0_0 = 3 then (if a0_1 ≥ 0 then (some (a0_2.toList == ([] : List UInt8))) else (some false)) else (some false)) = some r := h
  clear h
  by_cases c2 : a0_0 = 3
  · rw [if_pos c2] at H
    have c2b0 : (a0_0 == 3) = true := beq_iff_eq.mpr c2
    have c2b1 : (a0_0 != 3) = false := bne_eq_false_iff_eq.mpr c2
    clear c2
    by_cases c3 : a0_1 ≥ 0
    · rw [if_pos c3] at H
      have c3b0 : decide (0 ≤ a0_1) = true := decide_eq_true c3
      clear c3
      obtain rfl := Option.some.inj H
      go_enter Tryd.func55, Tryd.ntmps55
      go_wp2_with (first | ((with_reducible refine gate_dst (N := 1) rfl ?_); refine box_event ?hg (N := 1) ?hd (cs := #[.int .i64 a0_0, .int .i64 a0_1, .string a0_2]) (t := 23) ?hr ?_; (case hd => rfl); (case hg => rfl); (case hr => first | (go_simp; done) | (go_simp; rfl)); intro gb106 hg w4 hbox hb; have n0_ := Aside0.mk (below_step (by repeat (first | (with_reducible first | exact HB.out | apply below_alloc | apply pw_below_drewN | apply below_drew1) | exact HB.out)) hb); have n1_ := Aside0.mk (hbox); have n2_ := Aside0.mk ((by rw [hg]; exact (below_size (by repeat (first | (with_reducible first | exact HB.out | apply below_alloc | apply pw_below_drewN | apply below_drew1) | exact HB.out))) : w.heap.size ≤ gb106)); have n3_ := Aside0.mk ((by rw [hg]; exact (below_size (by repeat (first | (with_reducible first | exact HB.out | apply below_alloc | apply pw_below_drewN | apply below_drew1) | exact HB.out))) : w.heap.size ≤ gb106)); clear HB; have HB := n0_; have BK106 := n1_; have GW106 := n2_; have GE106 := n3_; clear n0_ n1_ n2_ n3_; clear hb hbox hg; have hcz5_0 : w4.cell? ⟨gb106, 0, none⟩ = some (.int .i64 a0_0) := (blk_cell BK106.out 0).trans rfl; have hcz5_1 : w4.cell? ⟨gb106, 1, none⟩ = some (.int .i64 a0_1) := (blk_cell BK106.out 1).trans rfl; have hcz5_2 : w4.cell? ⟨gb106, 2, none⟩ = some (.string a0_2) := (blk_cell BK106.out 2).trans rfl; have hfz5_0 := blk_frozen BK106.out 0; have hfz5_1 := blk_frozen BK106.out 1; have hfz5_2 := blk_frozen BK106.out 2))
      go_ret
      exact ⟨by first | rfl | (simp [errW_none, errW_some] <;> rfl) | (simp [errW_none, errW_some, bne, show ∀ l_ : List UInt8, (l_ == []) = l_.isEmpty from fun l_ => by cases l_ <;> rfl]; done) | (simp [*, errW_none, errW_some] <;> rfl), by repeat (first | (with_reducible first | exact HB.out | apply below_alloc | apply pw_below_drewN | apply below_drew1 | refine below_set ?_ GE106.out) | exact HB.out)⟩
    · rw [if_neg c3] at H
      have c3b0 : decide (0 ≤ a0_1) = false := decide_eq_false c3
      clear c3
      obtain rfl := Option.some.inj H
      go_enter Tryd.func55, Tryd.ntmps55
      go_wp2_with (first | ((with_reducible refine gate_dst (N := 1) rfl ?_); refine box_event ?hg (N := 1) ?hd (cs := #[.int .i64 a0_0, .int .i64 a0_1, .string a0_2]) (t := 23) ?hr ?_; (case hd => rfl); (case hg => rfl); (case hr => first | (go_simp; done) | (go_simp; rfl)); intro gb106 hg w6 hbox hb; have n0_ := Aside0.mk (below_step (by repeat (first | (with_reducible first | exact HB.out | apply below_alloc | apply pw_below_drewN | apply below_drew1) | exact HB.out)) hb); have n1_ := Aside0.mk (hbox); have n2_ := Aside0.mk ((by rw [hg]; exact (below_size (by repeat (first | (with_reducible first | exact HB.out | apply below_alloc | apply pw_below_drewN | apply below_drew1) | exact HB.out))) : w.heap.size ≤ gb106)); have n3_ := Aside0.mk ((by rw [hg]; exact (below_size (by repeat (first | (with_reducible first | exact HB.out | apply below_alloc | apply pw_below_drewN | apply below_drew1) | exact HB.out))) : w.heap.size ≤ gb106)); clear HB; have HB := n0_; have BK106 := n1_; have GW106 := n2_; have GE106 := n3_; clear n0_ n1_ n2_ n3_; clear hb hbox hg; have hcz7_0 : w6.cell? ⟨gb106, 0, none⟩ = some (.int .i64 a0_0) := (blk_cell BK106.out 0).trans rfl; have hcz7_1 : w6.cell? ⟨gb106, 1, none⟩ = some (.int .i64 a0_1) := (blk_cell BK106.out 1).trans rfl; have hcz7_2 : w6.cell? ⟨gb106, 2, none⟩ = some (.string a0_2) := (blk_cell BK106.out 2).trans rfl; have hfz7_0 := blk_frozen BK106.out 0; have hfz7_1 := blk_frozen BK106.out 1; have hfz7_2 := blk_frozen BK106.out 2))
      go_ret
      exact ⟨by first | rfl | (simp [errW_none, errW_some] <;> rfl) | (simp [errW_none, errW_some, bne, show ∀ l_ : List UInt8, (l_ == []) = l_.isEmpty from fun l_ => by cases l_ <;> rfl]; done) | (simp [*, errW_none, errW_some] <;> rfl), by repeat (first | (with_reducible first | exact HB.out | apply below_alloc | apply pw_below_drewN | apply below_drew1 | refine below_set ?_ GE106.out) | exact HB.out)⟩
  · rw [if_neg c2] at H
    have c2b0 : (a0_0 == 3) = false := beq_eq_false_iff_ne.mpr c2
    have c2b1 : (a0_0 != 3) = true := bne_iff_ne.mpr c2
    obtain rfl := Option.some.inj H
    go_enter Tryd.func55, Tryd.ntmps55
    go_wp2_with (first | ((with_reducible refine gate_dst (N := 1) rfl ?_); refine box_event ?hg (N := 1) ?hd (cs := #[.int .i64 a0_0, .int .i64 a0_1, .string a0_2]) (t := 23) ?hr ?_; (case hd => rfl); (case hg => rfl); (case hr => first | (go_simp; done) | (go_simp; rfl)); intro gb106 hg w8 hbox hb; have n0_ := Aside0.mk (below_step (by repeat (first | (with_reducible first | exact HB.out | apply below_alloc | apply pw_below_drewN | apply below_drew1) | exact HB.out)) hb); have n1_ := Aside0.mk (hbox); have n2_ := Aside0.mk ((by rw [hg]; exact (below_size (by repeat (first | (with_reducible first | exact HB.out | apply below_alloc | apply pw_below_drewN | apply below_drew1) | exact HB.out))) : w.heap.size ≤ gb106)); have n3_ := Aside0.mk ((by rw [hg]; exact (below_size (by repeat (first | (with_reducible first | exact HB.out | apply below_alloc | apply pw_below_drewN | apply below_drew1) | exact HB.out))) : w.heap.size ≤ gb106)); clear HB; have HB := n0_; have BK106 := n1_; have GW106 := n2_; have GE106 := n3_; clear n0_ n1_ n2_ n3_; clear hb hbox hg; have hcz9_0 : w8.cell? ⟨gb106, 0, none⟩ = some (.int .i64 a0_0) := (blk_cell BK106.out 0).trans rfl; have hcz9_1 : w8.cell? ⟨gb106, 1, none⟩ = some (.int .i64 a0_1) := (blk_cell BK106.out 1).trans rfl; have hcz9_2 : w8.cell? ⟨gb106, 2, none⟩ = some (.string a0_2) := (blk_cell BK106.out 2).trans rfl; have hfz9_0 := blk_frozen BK106.out 0; have hfz9_1 := blk_frozen BK106.out 1; have hfz9_2 := blk_frozen BK106.out 2))
    go_ret
    exact ⟨by first | rfl | (simp [errW_none, errW_some] <;> rfl) | (simp [errW_none, errW_some, bne, show ∀ l_ : List UInt8, (l_ == []) = l_.isEmpty from fun l_ => by cases l_ <;> rfl]; done) | (simp [*, errW_none, errW_some] <;> rfl), by repeat (first | (with_reducible first | exact HB.out | apply below_alloc | apply pw_below_drewN | apply below_drew1 | refine below_set ?_ GE106.out) | exact HB.out)⟩

-- NOT PRINTED: function 92 (api_Term_92)

def codec_number.l0 : Nat → List Int → Int → Int → Option (List Int)
  | 0, _, _, _ => none
  | k + 1, x0, x1, x7 => if x7 ≥ 0 then (if 0 ≤ (wrap64 (8 * x7)) then (if x0.length < 140737488355328 then (codec_number.l0 k (x0 ++ [(shr .u64 x1 (wrap64 (8 * x7))) % 256]) x1 (wrap64 (x7 - 1))) else (none)) else (none)) else (some x0)
def codec_number.f (k : Nat) (l0 : List Int) (a1 : Int) (a2 : Int) : Option (List Int) := codec_number.l0 k l0 a1 (wrap64 (a2 - 1))
set_option maxHeartbeats 8000000 in
set_option maxRecDepth 100000 in
theorem codec_number.calls (k : Nat) (P0_ : Nat → Prop) (u9000_ : Value) (l0 : List Int) (a1 : Int) (a2 : Int) (r : List Int) (w0 w : World) (hB : Below w0.heap.size w0 w) (ho0 : Kd.R (Kd.int .u8) 5 w w0.heap.size P0_ u9000_ l0) (h : codec_number.f k l0 a1 a2 = some r) :
    Calls Tryd.prog 93 #[u9000_, .int .u64 a1, .int .i64 a2] w fun e w' => ∃ v0_ : Value, e = .returned (v0_) ∧ Kd.R (Kd.int .u8) 5 w' w0.heap.size (fun k_ => (P0_ k_ ∨ w.heap.size ≤ k_)) v0_ r ∧ Below w0.heap.size w0 w' ∧ Kept w w' (fun k_ => P0_ k_) := by
  have HO0 := Aside0.mk (show Kd.R (Kd.int .u8) 5 w w0.heap.size (fun k_ => (P0_ k_ ∨ w.heap.size ≤ k_)) u9000_ l0 from Kd.R_mono ho0 (fun k_ hk => (.inl hk)))
  have HK := Aside0.mk (Kept.refl w (fun k_ => P0_ k_))
  have HW0 := Aside0.mk hB.size
  have HB := Aside0.mk hB
  clear hB
  have H : (codec_number.l0 k l0 a1 (wrap64 (a2 - 1))) = some r := h
  clear h
  have H' := Aside0.mk H
  clear H
  go_enter Tryd.func93, Tryd.ntmps93
  go_wp2
  go_loopg [0, 7] k (fun kq v0 v7 w' => ∃ (x0_1 : List Int) (x7_1 : Int), v7 = .int .i64 x7_1 ∧ Aside0 (codec_number.l0 kq x0_1 a1 x7_1 = some r) ∧ Aside0 (kq ≤ k) ∧ Aside0 (Kd.R (Kd.int .u8) 5 w' w0.heap.size (fun k_ => (P0_ k_ ∨ w.heap.size ≤ k_)) v0 x0_1) ∧ Aside0 (Kept w w' (fun k_ => P0_ k_)) ∧ Aside0 (Below w0.heap.size w0 w'))
  case atStart => exact ⟨(l0), (wrap64 (a2 - 1)), (by first | rfl | (simp; done) | (simp [*]; done)), H', ⟨Nat.le_refl _⟩, ⟨by (with_reducible repeat (first | apply Kd.R_alloc | apply Kd.R_drewN | apply Kd.R_drew)); exact HO0.out⟩, ⟨by repeat (first | (with_reducible first | exact HK.out | apply Kept.alloc | apply Kept.drewN | apply Kept.drew) | exact HK.out)⟩, ⟨by repeat (first | (with_reducible first | exact HB.out | apply below_alloc | apply pw_below_drewN | apply below_drew1) | exact HB.out)⟩⟩
  case round =>
    clear H'
    try clear p2
    obtain ⟨x0_1, x7_1, rfl, HA, HK1, HO_0, HK, HB⟩ := hrel
    cases gk with
    | zero => exact absurd HA.out (by simp [codec_number.l0])
    | succ k1 =>
      have H := HA.out
      clear HA
      simp only [codec_number.l0] at H
      by_cases c4 : x7_1 ≥ 0
      · rw [if_pos c4] at H
        have c4b0 : decide (0 ≤ x7_1) = true := decide_eq_true c4
        clear c4
        obtain ⟨ji5, hji5⟩ : ∃ j_ : Int, (wrap64 (8 * x7_1)) = j_ := ⟨_, rfl⟩
        replace H : (if 0 ≤ (ji5) then (if x0_1.length < 140737488355328 then (codec_number.l0 k1 (x0_1 ++ [(shr .u64 a1 (ji5)) % 256]) a1 (wrap64 (x7_1 - 1))) else (none)) else (none)) = some r := by first | (rw [hji5] at H; exact H) | (simp only [hji5] at H ⊢; exact H)
        have hji5w : (IntKind.i64.wrap (8 * x7_1)) = ji5 := (i64_w _).trans hji5
        by_cases c6 : 0 ≤ (ji5)
        · rw [if_pos c6] at H
          have c6b0 := eq_true c6
          have c6b1 : decide (0 ≤ (ji5)) = true := decide_eq_true c6
          clear c6
          obtain ⟨ji7, hji7⟩ : ∃ j_ : Int, (shr .u64 a1 (ji5)) = j_ := ⟨_, rfl⟩
          replace H : (if x0_1.length < 140737488355328 then (codec_number.l0 k1 (x0_1 ++ [(ji7) % 256]) a1 (wrap64 (x7_1 - 1))) else (none)) = some r := by first | (rw [hji7] at H; exact H) | (simp only [hji7] at H ⊢; exact H)
          have hji7_ : (a1 / 2 ^ min (ji5).toNat 64) = ji7 := hji7
          have hji7z : (ji5) ≤ 64 → (a1 / 2 ^ (ji5).toNat) = ji7 := shr_small hji7
          by_cases c8 : x0_1.length < 140737488355328
          · rw [if_pos c8] at H
            have LMc8 := Aside0.mk c8
            clear c8
            obtain ⟨y116, hy116⟩ : ∃ y_ : List Int, y_ = (x0_1 ++ [(ji7) % 256]) := ⟨_, rfl⟩
            replace H : (codec_number.l0 k1 y116 a1 (wrap64 (x7_1 - 1))) = some r := by first | (rw [hy116]; with_reducible exact H) | (have H2_ := (Option.bind_some _ _).symm.trans H; rw [hy116]; with_reducible exact H2_) | (have H2_ := (Option.bind_some _ _).symm.trans H; with_reducible exact H2_) | with_reducible exact H | (rw [hy116]; exact H) | exact H
            have Ny116 := Aside0.mk hy116
            clear hy116
            have H' := Aside0.mk H
            clear H
            go_wp2_with (first | ((with_reducible refine gate_builtin (b := .append) (xs := #[.tmp 14, .tmp 20]) rfl ?_); at_builtin; refine Kd.R_append (Kd.int .u8) (w0 := w0) w0.heap.size rfl (.tmp 14) (.tmp 20) 27 5 (.int .u8 0) 1 rfl Tryd.underlying27 info5 rfl (by decide) (by omega) u0 x0_1 ((ji7) % 256) [.int .u8 ((ji7) % 256)] (fun k_ => (P0_ k_ ∨ w.heap.size ≤ k_)) (fun _ => False) rfl rfl ?aP (fun _ hk => hk.elim) ?aF ?aO ?aB ?aS ?aL ?_; (case aP => exact rfl); (case aB => exact (by repeat (first | (with_reducible first | exact HB.out | apply below_alloc | apply pw_below_drewN | apply below_drew1) | exact HB.out))); (case aF => exact (fun k_ hk => (.inr (Nat.le_trans (by first | exact HK.out.1 | exact (show Kept w _ (fun k_ => P0_ k_) from by repeat (first | (with_reducible first | exact HK.out | apply Kept.alloc | apply Kept.drewN | apply Kept.drew) | exact HK.out)).1) hk)))); (case aO => exact (by (with_reducible repeat (first | apply Kd.R_alloc | apply Kd.R_drewN | apply Kd.R_drew)); exact HO_0.out)); (case aS => exact (below_size (by repeat (first | (with_reducible first | exact HB.out | apply below_alloc | apply pw_below_drewN | apply below_drew1) | exact HB.out)))); (case aL => have := LMc8.out; omega); intro v117 w9 ho hb hg hat; rw [← Ny116.out] at ho; have n0_ := Aside0.mk (hb); have n1_ := Aside0.mk (Kept.of_grown (S := (fun k_ => P0_ k_)) hg (by repeat (first | (with_reducible first | exact HK.out | apply Kept.alloc | apply Kept.drewN | apply Kept.drew) | exact HK.out)) (fun k_ e_ => (HO_0.out.1 k_ e_))); have n2_ := Aside0.mk (ho); clear HB; clear HK; clear HO_0; have HB := n0_; have HK := n1_; have HO118 := n2_; clear n0_ n1_ n2_; clear ho hb hg hat))
            go_roundg k1
            case measure => have := HK1.out; omega
            case rel => exact ⟨(y116), (wrap64 (x7_1 - 1)), (by first | rfl | (simp; done) | (simp [*]; done)), H', ⟨by have := HK1.out; omega⟩, ⟨by (with_reducible repeat (first | apply Kd.R_alloc | apply Kd.R_drewN | apply Kd.R_drew)); exact HO118.out⟩, ⟨by repeat (first | (with_reducible first | exact HK.out | apply Kept.alloc | apply Kept.drewN | apply Kept.drew) | exact HK.out)⟩, ⟨by repeat (first | (with_reducible first | exact HB.out | apply below_alloc | apply pw_below_drewN | apply below_drew1) | exact HB.out)⟩⟩
          · rw [if_neg c8] at H
            exact absurd H (by simp)
        · rw [if_neg c6] at H
          exact absurd H (by simp)
      · rw [if_neg c4] at H
        have c4b0 : decide (0 ≤ x7_1) = false := decide_eq_false c4
        clear c4
        obtain rfl := Option.some.inj H
        go_wp2
        go_ret
        exact ⟨_, by first | rfl | (simp [errW_none, errW_some] <;> rfl) | (simp [errW_none, errW_some, bne, show ∀ l_ : List UInt8, (l_ == []) = l_.isEmpty from fun l_ => by cases l_ <;> rfl]; done) | (simp [*, errW_none, errW_some] <;> rfl), by (with_reducible repeat (first | apply Kd.R_alloc | apply Kd.R_drewN | apply Kd.R_drew)); exact HO_0.out, by repeat (first | (with_reducible first | exact HB.out | apply below_alloc | apply pw_below_drewN | apply below_drew1) | exact HB.out), by repeat (first | (with_reducible first | exact HK.out | apply Kept.alloc | apply Kept.drewN | apply Kept.drew) | exact HK.out)⟩

-- NOT PRINTED: function 59 (codec_layTerm)

-- NOT PRINTED: function 60 (api_Term_60)

-- NOT PRINTED: function 27 (codec_layAtom)

def hearsayref02_Variable.f (a0_0 : Int) (a0_1 : Int) (a0_2 : ByteArray) : Option (Bool) := if a0_0 = 3 then (if a0_1 ≥ 0 then (some (a0_2.toList == ([] : List UInt8))) else (some false)) else (some false)
set_option maxHeartbeats 8000000 in
set_option maxRecDepth 100000 in
theorem hearsayref02_Variable.calls (a0_0 : Int) (a0_1 : Int) (a0_2 : ByteArray) (r : Bool) (w : World) (h : hearsayref02_Variable.f a0_0 a0_1 a0_2 = some r) :
    Calls Tryd.prog 51 #[.agg #[.int .i64 a0_0, .int .i64 a0_1, .string a0_2]] w fun e w' => e = .returned (.bool r) ∧ Below w.heap.size w w' := by
  have hu23 := Tryd.underlying23
  have HB := Aside0.mk (Below.refl w.heap.size w)
  have H : (if a0_0 = 3 then (if a0_1 ≥ 0 then (some (a0_2.toList == ([] : List UInt8))) else (some false)) else (some false)) = some r := h
  clear h
  by_cases c2 : a0_0 = 3
  · rw [if_pos c2] at H
    have c2b0 : (a0_0 == 3) = true := beq_iff_eq.mpr c2
    have c2b1 : (a0_0 != 3) = false := bne_eq_false_iff_eq.mpr c2
    clear c2
    by_cases c3 : a0_1 ≥ 0
    · rw [if_pos c3] at H
      have c3b0 : decide (0 ≤ a0_1) = true := decide_eq_true c3
      clear c3
      obtain rfl := Option.some.inj H
      go_enter Tryd.func51, Tryd.ntmps51
      go_wp2_with (first | ((with_reducible refine gate_dst (N := 1) rfl ?_); refine box_event ?hg (N := 1) ?hd (cs := #[.int .i64 a0_0, .int .i64 a0_1, .string a0_2]) (t := 23) ?hr ?_; (case hd => rfl); (case hg => rfl); (case hr => first | (go_simp; done) | (go_simp; rfl)); intro gb133 hg w4 hbox hb; have n0_ := Aside0.mk (below_step (by repeat (first | (with_reducible first | exact HB.out | apply below_alloc | apply pw_below_drewN | apply below_drew1) | exact HB.out)) hb); have n1_ := Aside0.mk (hbox); have n2_ := Aside0.mk ((by rw [hg]; exact (below_size (by repeat (first | (with_reducible first | exact HB.out | apply below_alloc | apply pw_below_drewN | apply below_drew1) | exact HB.out))) : w.heap.size ≤ gb133)); have n3_ := Aside0.mk ((by rw [hg]; exact (below_size (by repeat (first | (with_reducible first | exact HB.out | apply below_alloc | apply pw_below_drewN | apply below_drew1) | exact HB.out))) : w.heap.size ≤ gb133)); clear HB; have HB := n0_; have BK133 := n1_; have GW133 := n2_; have GE133 := n3_; clear n0_ n1_ n2_ n3_; clear hb hbox hg; have hcz5_0 : w4.cell? ⟨gb133, 0, none⟩ = some (.int .i64 a0_0) := (blk_cell BK133.out 0).trans rfl; have hcz5_1 : w4.cell? ⟨gb133, 1, none⟩ = some (.int .i64 a0_1) := (blk_cell BK133.out 1).trans rfl; have hcz5_2 : w4.cell? ⟨gb133, 2, none⟩ = some (.string a0_2) := (blk_cell BK133.out 2).trans rfl; have hfz5_0 := blk_frozen BK133.out 0; have hfz5_1 := blk_frozen BK133.out 1; have hfz5_2 := blk_frozen BK133.out 2))
      go_ret
      exact ⟨by first | rfl | (simp [errW_none, errW_some] <;> rfl) | (simp [errW_none, errW_some, bne, show ∀ l_ : List UInt8, (l_ == []) = l_.isEmpty from fun l_ => by cases l_ <;> rfl]; done) | (simp [*, errW_none, errW_some] <;> rfl), by repeat (first | (with_reducible first | exact HB.out | apply below_alloc | apply pw_below_drewN | apply below_drew1 | refine below_set ?_ GE133.out) | exact HB.out)⟩
    · rw [if_neg c3] at H
      have c3b0 : decide (0 ≤ a0_1) = false := decide_eq_false c3
      clear c3
      obtain rfl := Option.some.inj H
      go_enter Tryd.func51, Tryd.ntmps51
      go_wp2_with (first | ((with_reducible refine gate_dst (N := 1) rfl ?_); refine box_event ?hg (N := 1) ?hd (cs := #[.int .i64 a0_0, .int .i64 a0_1, .string a0_2]) (t := 23) ?hr ?_; (case hd => rfl); (case hg => rfl); (case hr => first | (go_simp; done) | (go_simp; rfl)); intro gb133 hg w6 hbox hb; have n0_ := Aside0.mk (below_step (by repeat (first | (with_reducible first | exact HB.out | apply below_alloc | apply pw_below_drewN | apply below_drew1) | exact HB.out)) hb); have n1_ := Aside0.mk (hbox); have n2_ := Aside0.mk ((by rw [hg]; exact (below_size (by repeat (first | (with_reducible first | exact HB.out | apply below_alloc | apply pw_below_drewN | apply below_drew1) | exact HB.out))) : w.heap.size ≤ gb133)); have n3_ := Aside0.mk ((by rw [hg]; exact (below_size (by repeat (first | (with_reducible first | exact HB.out | apply below_alloc | apply pw_below_drewN | apply below_drew1) | exact HB.out))) : w.heap.size ≤ gb133)); clear HB; have HB := n0_; have BK133 := n1_; have GW133 := n2_; have GE133 := n3_; clear n0_ n1_ n2_ n3_; clear hb hbox hg; have hcz7_0 : w6.cell? ⟨gb133, 0, none⟩ = some (.int .i64 a0_0) := (blk_cell BK133.out 0).trans rfl; have hcz7_1 : w6.cell? ⟨gb133, 1, none⟩ = some (.int .i64 a0_1) := (blk_cell BK133.out 1).trans rfl; have hcz7_2 : w6.cell? ⟨gb133, 2, none⟩ = some (.string a0_2) := (blk_cell BK133.out 2).trans rfl; have hfz7_0 := blk_frozen BK133.out 0; have hfz7_1 := blk_frozen BK133.out 1; have hfz7_2 := blk_frozen BK133.out 2))
      go_ret
      exact ⟨by first | rfl | (simp [errW_none, errW_some] <;> rfl) | (simp [errW_none, errW_some, bne, show ∀ l_ : List UInt8, (l_ == []) = l_.isEmpty from fun l_ => by cases l_ <;> rfl]; done) | (simp [*, errW_none, errW_some] <;> rfl), by repeat (first | (with_reducible first | exact HB.out | apply below_alloc | apply pw_below_drewN | apply below_drew1 | refine below_set ?_ GE133.out) | exact HB.out)⟩
  · rw [if_neg c2] at H
    have c2b0 : (a0_0 == 3) = false := beq_eq_false_iff_ne.mpr c2
    have c2b1 : (a0_0 != 3) = true := bne_iff_ne.mpr c2
    obtain rfl := Option.some.inj H
    go_enter Tryd.func51, Tryd.ntmps51
    go_wp2_with (first | ((with_reducible refine gate_dst (N := 1) rfl ?_); refine box_event ?hg (N := 1) ?hd (cs := #[.int .i64 a0_0, .int .i64 a0_1, .string a0_2]) (t := 23) ?hr ?_; (case hd => rfl); (case hg => rfl); (case hr => first | (go_simp; done) | (go_simp; rfl)); intro gb133 hg w8 hbox hb; have n0_ := Aside0.mk (below_step (by repeat (first | (with_reducible first | exact HB.out | apply below_alloc | apply pw_below_drewN | apply below_drew1) | exact HB.out)) hb); have n1_ := Aside0.mk (hbox); have n2_ := Aside0.mk ((by rw [hg]; exact (below_size (by repeat (first | (with_reducible first | exact HB.out | apply below_alloc | apply pw_below_drewN | apply below_drew1) | exact HB.out))) : w.heap.size ≤ gb133)); have n3_ := Aside0.mk ((by rw [hg]; exact (below_size (by repeat (first | (with_reducible first | exact HB.out | apply below_alloc | apply pw_below_drewN | apply below_drew1) | exact HB.out))) : w.heap.size ≤ gb133)); clear HB; have HB := n0_; have BK133 := n1_; have GW133 := n2_; have GE133 := n3_; clear n0_ n1_ n2_ n3_; clear hb hbox hg; have hcz9_0 : w8.cell? ⟨gb133, 0, none⟩ = some (.int .i64 a0_0) := (blk_cell BK133.out 0).trans rfl; have hcz9_1 : w8.cell? ⟨gb133, 1, none⟩ = some (.int .i64 a0_1) := (blk_cell BK133.out 1).trans rfl; have hcz9_2 : w8.cell? ⟨gb133, 2, none⟩ = some (.string a0_2) := (blk_cell BK133.out 2).trans rfl; have hfz9_0 := blk_frozen BK133.out 0; have hfz9_1 := blk_frozen BK133.out 1; have hfz9_2 := blk_frozen BK133.out 2))
    go_ret
    exact ⟨by first | rfl | (simp [errW_none, errW_some] <;> rfl) | (simp [errW_none, errW_some, bne, show ∀ l_ : List UInt8, (l_ == []) = l_.isEmpty from fun l_ => by cases l_ <;> rfl]; done) | (simp [*, errW_none, errW_some] <;> rfl), by repeat (first | (with_reducible first | exact HB.out | apply below_alloc | apply pw_below_drewN | apply below_drew1 | refine below_set ?_ GE133.out) | exact HB.out)⟩

def hearsayref02_letter.f (a0 : Int) : Option (Bool) := if a0 ≥ 97 then (if a0 ≤ 122 then (some true) else (if a0 ≥ 65 then (if a0 ≤ 90 then (some true) else (if a0 ≥ 48 then (if a0 ≤ 57 then (some true) else (some (a0 == 95))) else (some (a0 == 95)))) else (if a0 ≥ 48 then (if a0 ≤ 57 then (some true) else (some (a0 == 95))) else (some (a0 == 95))))) else (if a0 ≥ 65 then (if a0 ≤ 90 then (some true) else (if a0 ≥ 48 then (if a0 ≤ 57 then (some true) else (some (a0 == 95))) else (some (a0 == 95)))) else (if a0 ≥ 48 then (if a0 ≤ 57 then (some true) else (some (a0 == 95))) else (some (a0 == 95))))
set_option maxHeartbeats 8000000 in
set_option maxRecDepth 100000 in
theorem hearsayref02_letter.calls (a0 : Int) (r : Bool) (w : World) (h : hearsayref02_letter.f a0 = some r) :
    Calls Tryd.prog 94 #[.int .u8 a0] w fun e w' => e = .returned (.bool r) ∧ Drawn0 w w' := by
  have H : (if a0 ≥ 97 then (if a0 ≤ 122 then (some true) else (if a0 ≥ 65 then (if a0 ≤ 90 then (some true) else (if a0 ≥ 48 then (if a0 ≤ 57 then (some true) else (some (a0 == 95))) else (some (a0 == 95)))) else (if a0 ≥ 48 then (if a0 ≤ 57 then (some true) else (some (a0 == 95))) else (some (a0 == 95))))) else (if a0 ≥ 65 then (if a0 ≤ 90 then (some true) else (if a0 ≥ 48 then (if a0 ≤ 57 then (some true) else (some (a0 == 95))) else (some (a0 == 95)))) else (if a0 ≥ 48 then (if a0 ≤ 57 then (some true) else (some (a0 == 95))) else (some (a0 == 95))))) = some r := h
  clear h
  by_cases c2 : a0 ≥ 97
  · rw [if_pos c2] at H
    have c2b0 : decide (97 ≤ a0) = true := decide_eq_true c2
    clear c2
    by_cases c3 : a0 ≤ 122
    · rw [if_pos c3] at H
      have c3b0 : decide (a0 ≤ 122) = true := decide_eq_true c3
      clear c3
      obtain rfl := Option.some.inj H
      go_enter Tryd.func94, Tryd.ntmps94
      go_wp2
      go_ret
      exact ⟨by first | rfl | (simp; done) | (simp [*]; done), by repeat (first | exact Drawn0.refl _ | apply Drawn0.step)⟩
    · rw [if_neg c3] at H
      have c3b0 : decide (a0 ≤ 122) = false := decide_eq_false c3
      clear c3
      by_cases c4 : a0 ≥ 65
      · rw [if_pos c4] at H
        have c4b0 : decide (65 ≤ a0) = true := decide_eq_true c4
        clear c4
        by_cases c5 : a0 ≤ 90
        · rw [if_pos c5] at H
          have c5b0 : decide (a0 ≤ 90) = true := decide_eq_true c5
          clear c5
          obtain rfl := Option.some.inj H
          go_enter Tryd.func94, Tryd.ntmps94
          go_wp2
          go_ret
          exact ⟨by first | rfl | (simp; done) | (simp [*]; done), by repeat (first | exact Drawn0.refl _ | apply Drawn0.step)⟩
        · rw [if_neg c5] at H
          have c5b0 : decide (a0 ≤ 90) = false := decide_eq_false c5
          clear c5
          by_cases c6 : a0 ≥ 48
          · rw [if_pos c6] at H
            have c6b0 : decide (48 ≤ a0) = true := decide_eq_true c6
            clear c6
            by_cases c7 : a0 ≤ 57
            · rw [if_pos c7] at H
              have c7b0 : decide (a0 ≤ 57) = true := decide_eq_true c7
              clear c7
              obtain rfl := Option.some.inj H
              go_enter Tryd.func94, Tryd.ntmps94
              go_wp2
              go_ret
              exact ⟨by first | rfl | (simp; done) | (simp [*]; done), by repeat (first | exact Drawn0.refl _ | apply Drawn0.step)⟩
            · rw [if_neg c7] at H
              have c7b0 : decide (a0 ≤ 57) = false := decide_eq_false c7
              clear c7
              obtain rfl := Option.some.inj H
              go_enter Tryd.func94, Tryd.ntmps94
              go_wp2
              go_ret
              exact ⟨by first | rfl | (simp; done) | (simp [*]; done), by repeat (first | exact Drawn0.refl _ | apply Drawn0.step)⟩
          · rw [if_neg c6] at H
            have c6b0 : decide (48 ≤ a0) = false := decide_eq_false c6
            clear c6
            obtain rfl := Option.some.inj H
            go_enter Tryd.func94, Tryd.ntmps94
            go_wp2
            go_ret
            exact ⟨by first | rfl | (simp; done) | (simp [*]; done), by repeat (first | exact Drawn0.refl _ | apply Drawn0.step)⟩
      · rw [if_neg c4] at H
        have c4b0 : decide (65 ≤ a0) = false := decide_eq_false c4
        clear c4
        by_cases c8 : a0 ≥ 48
        · rw [if_pos c8] at H
          have c8b0 : decide (48 ≤ a0) = true := decide_eq_true c8
          clear c8
          by_cases c9 : a0 ≤ 57
          · rw [if_pos c9] at H
            have c9b0 : decide (a0 ≤ 57) = true := decide_eq_true c9
            clear c9
            obtain rfl := Option.some.inj H
            go_enter Tryd.func94, Tryd.ntmps94
            go_wp2
            go_ret
            exact ⟨by first | rfl | (simp; done) | (simp [*]; done), by repeat (first | exact Drawn0.refl _ | apply Drawn0.step)⟩
          · rw [if_neg c9] at H
            have c9b0 : decide (a0 ≤ 57) = false := decide_eq_false c9
            clear c9
            obtain rfl := Option.some.inj H
            go_enter Tryd.func94, Tryd.ntmps94
            go_wp2
            go_ret
            exact ⟨by first | rfl | (simp; done) | (simp [*]; done), by repeat (first | exact Drawn0.refl _ | apply Drawn0.step)⟩
        · rw [if_neg c8] at H
          have c8b0 : decide (48 ≤ a0) = false := decide_eq_false c8
          clear c8
          obtain rfl := Option.some.inj H
          go_enter Tryd.func94, Tryd.ntmps94
          go_wp2
          go_ret
          exact ⟨by first | rfl | (simp; done) | (simp [*]; done), by repeat (first | exact Drawn0.refl _ | apply Drawn0.step)⟩
  · rw [if_neg c2] at H
    have c2b0 : decide (97 ≤ a0) = false := decide_eq_false c2
    clear c2
    by_cases c10 : a0 ≥ 65
    · rw [if_pos c10] at H
      have c10b0 : decide (65 ≤ a0) = true := decide_eq_true c10
      clear c10
      by_cases c11 : a0 ≤ 90
      · rw [if_pos c11] at H
        have c11b0 : decide (a0 ≤ 90) = true := decide_eq_true c11
        clear c11
        obtain rfl := Option.some.inj H
        go_enter Tryd.func94, Tryd.ntmps94
        go_wp2
        go_ret
        exact ⟨by first | rfl | (simp; done) | (simp [*]; done), by repeat (first | exact Drawn0.refl _ | apply Drawn0.step)⟩
      · rw [if_neg c11] at H
        have c11b0 : decide (a0 ≤ 90) = false := decide_eq_false c11
        clear c11
        by_cases c12 : a0 ≥ 48
        · rw [if_pos c12] at H
          have c12b0 : decide (48 ≤ a0) = true := decide_eq_true c12
          clear c12
          by_cases c13 : a0 ≤ 57
          · rw [if_pos c13] at H
            have c13b0 : decide (a0 ≤ 57) = true := decide_eq_true c13
            clear c13
            obtain rfl := Option.some.inj H
            go_enter Tryd.func94, Tryd.ntmps94
            go_wp2
            go_ret
            exact ⟨by first | rfl | (simp; done) | (simp [*]; done), by repeat (first | exact Drawn0.refl _ | apply Drawn0.step)⟩
          · rw [if_neg c13] at H
            have c13b0 : decide (a0 ≤ 57) = false := decide_eq_false c13
            clear c13
            obtain rfl := Option.some.inj H
            go_enter Tryd.func94, Tryd.ntmps94
            go_wp2
            go_ret
            exact ⟨by first | rfl | (simp; done) | (simp [*]; done), by repeat (first | exact Drawn0.refl _ | apply Drawn0.step)⟩
        · rw [if_neg c12] at H
          have c12b0 : decide (48 ≤ a0) = false := decide_eq_false c12
          clear c12
          obtain rfl := Option.some.inj H
          go_enter Tryd.func94, Tryd.ntmps94
          go_wp2
          go_ret
          exact ⟨by first | rfl | (simp; done) | (simp [*]; done), by repeat (first | exact Drawn0.refl _ | apply Drawn0.step)⟩
    · rw [if_neg c10] at H
      have c10b0 : decide (65 ≤ a0) = false := decide_eq_false c10
      clear c10
      by_cases c14 : a0 ≥ 48
      · rw [if_pos c14] at H
        have c14b0 : decide (48 ≤ a0) = true := decide_eq_true c14
        clear c14
        by_cases c15 : a0 ≤ 57
        · rw [if_pos c15] at H
          have c15b0 : decide (a0 ≤ 57) = true := decide_eq_true c15
          clear c15
          obtain rfl := Option.some.inj H
          go_enter Tryd.func94, Tryd.ntmps94
          go_wp2
          go_ret
          exact ⟨by first | rfl | (simp; done) | (simp [*]; done), by repeat (first | exact Drawn0.refl _ | apply Drawn0.step)⟩
        · rw [if_neg c15] at H
          have c15b0 : decide (a0 ≤ 57) = false := decide_eq_false c15
          clear c15
          obtain rfl := Option.some.inj H
          go_enter Tryd.func94, Tryd.ntmps94
          go_wp2
          go_ret
          exact ⟨by first | rfl | (simp; done) | (simp [*]; done), by repeat (first | exact Drawn0.refl _ | apply Drawn0.step)⟩
      · rw [if_neg c14] at H
        have c14b0 : decide (48 ≤ a0) = false := decide_eq_false c14
        clear c14
        obtain rfl := Option.some.inj H
        go_enter Tryd.func94, Tryd.ntmps94
        go_wp2
        go_ret
        exact ⟨by first | rfl | (simp; done) | (simp [*]; done), by repeat (first | exact Drawn0.refl _ | apply Drawn0.step)⟩

end Go.Proofs.YtdplpcedfkfajaaDoor.T
/- The walks of codec.layTerm, each at Term, layAtom: what is written behind a row of bytes of one's own. -/
set_option linter.unusedVariables false
set_option linter.unusedSimpArgs false
namespace Go.Proofs.YtdplpcedfkfajaaDoor.T
open Go.RowKit Go.Proofs.YtdplpcedfkfajaaDoorW.PrintWords Go.Proofs.YtdplpcedfkfajaaDoorW.PrintLast
attribute [local go_sem ↓] Go.wp_at_zero Go.wp_at_succ
/-- What a laying function does: xs are written behind the row that is handed in. -/
structure LaidB (w0 w : World) (P : Nat → Prop) (ys : List Int) (e : Ending) (w' : World) : Prop where
  ex : ∃ v, e = .returned v ∧ Bt w' w0.heap.size (fun k => P k ∨ w.heap.size ≤ k) v ys
  below : Below w0.heap.size w0 w'
  kept : Kept w w' P
theorem wrap8 (x : Int) (h : 0 ≤ x) (h2 : x < 18446744073709551616) (n : Nat) (hn : n < 8) : (shr .u64 x (wrap64 (8 * (n : Int)))) % 256 = (x / 2 ^ (8 * n)) % 256 := by
  have e : wrap64 (8 * (n : Int)) = ((8 * n : Nat) : Int) := by unfold wrap64; omega
  rw [e]
  unfold shr
  have : min ((8 * n : Nat) : Int).toNat IntKind.u64.bits = 8 * n := by
    simp [IntKind.bits]; omega
  rw [this]
theorem number_f (l : List Int) (x : Int) (hx : 0 ≤ x) (hx2 : x < 18446744073709551616) (n : Nat) (hn : n ≤ 8) (hl : l.length + n < 140737488355328) : codec_number.f (n + 1) l x n = some (l ++ beI x n) := by
  unfold codec_number.f
  have : ∀ (n : Nat) (l : List Int), n ≤ 8 → l.length + n < 140737488355328 → codec_number.l0 (n + 1) l x (wrap64 ((n : Int) - 1)) = some (l ++ beI x n) := by
    intro n
    induction n with
    | zero =>
      intro l _ _
      have e : wrap64 (((0 : Nat) : Int) - 1) = -1 := by unfold wrap64; omega
      rw [e, codec_number.l0, if_neg (by omega)]
      simp [beI]
    | succ n ih =>
      intro l hn hl
      have e : wrap64 (((n + 1 : Nat) : Int) - 1) = (n : Int) := by unfold wrap64; omega
      rw [e, codec_number.l0, if_pos (by omega), if_pos (by unfold wrap64; omega), if_pos (by omega), ih _ (by omega) (by simp; omega), wrap8 x hx hx2 n (by omega), beI]
      simp
  exact this n l hn hl
theorem number_laid (w0 w : World) (P : Nat → Prop) (v : Value) (xs : List Int) (x : Int) (hx : 0 ≤ x) (hx2 : x < 18446744073709551616) (hB : Below w0.heap.size w0 w) (ho : Bt w w0.heap.size P v xs) (hl : xs.length + 8 < 140737488355328) :
    Calls Tryd.prog 93 #[v, .int .u64 x, .int .i64 8] w (LaidB w0 w P (xs ++ beI x 8)) := by
  refine (codec_number.calls 9 P v xs x 8 _ w0 w hB ho (number_f xs x hx hx2 8 (by omega) hl)).mono ?_
  rintro e w' ⟨v', rfl, h1, h2, h3⟩
  exact ⟨⟨v', rfl, h1⟩, h2, h3⟩
theorem u64_range (x : Int) : 0 ≤ u64 x ∧ u64 x < 18446744073709551616 := by rw [u64_eq]; omega
theorem LaidB.through {w0 w w2 w' : World} {P : Nat → Prop} {ys : List Int} {e : Ending} (hk : Kept w w2 P) (h : LaidB w0 w2 (fun k => P k ∨ w.heap.size ≤ k) ys e w') : LaidB w0 w P ys e w' := by
  obtain ⟨⟨v, rfl, hv⟩, hb, hk2⟩ := h
  have hs := hk.1
  exact ⟨⟨v, rfl, Kd.R_mono hv (fun k hk => hk.elim id (fun h => .inr (by omega)))⟩, hb, hk.then_ hk2 (fun _ h => h)⟩
theorem grow_step {w0 w W W' : World} {P : Nat → Prop} {v : Value} {xs : List Int} (hB : Below w0.heap.size w0 W) (hK : Kept w W P) (hO : Bt W w0.heap.size (fun k => P k ∨ w.heap.size ≤ k) v xs) (hg : W.grownBy W' v.ownBlock) : Below w0.heap.size w0 W' ∧ Kept w W' P :=
  ⟨pw_below_grown hB _ hB.size hg (own_base (Kd.own_of_R hO)), Kept.of_grown hg hK (fun k hk => hO.1 k hk)⟩
/-- What a term may add, at most. -/
def costT (t : Tm) : Nat := t.f2.size + 16
def costs (l : List Tm) : Nat := (l.map costT).sum
theorem encT_len (t : Tm) : (encT t).length ≤ costT t := by
  unfold encT costT
  split
  · simp [beI_len]
  · split
    · simp only [List.length_cons, bytesOf_length]; omega
    · simp
/-- Where a laying walk stands: what it has written so far. -/
structure LW (w0 w W : World) (P : Nat → Prop) (v : Value) (xs : List Int) : Prop where
  below : Below w0.heap.size w0 W
  kept : Kept w W P
  own : Bt W w0.heap.size (fun k => P k ∨ w.heap.size ≤ k) v xs
theorem LW.start {w0 w : World} {P : Nat → Prop} {v : Value} {xs : List Int} (hB : Below w0.heap.size w0 w) (ho : Bt w w0.heap.size P v xs) : LW w0 w w P v xs := ⟨hB, Kept.refl w P, Kd.R_mono ho (fun k hk => .inl hk)⟩
theorem LW.up {w0 w W W' : World} {P : Nat → Prop} {v : Value} {xs : List Int} (h : LW w0 w W P v xs) (hb : Below W.heap.size W W') : LW w0 w W' P v xs := ⟨below_then h.below h.below.size hb, Kept.below h.kept hb, Kd.R_below h.own hb⟩
theorem LW.set {w0 w W : World} {P : Nat → Prop} {v : Value} {xs : List Int} (h : LW w0 w W P v xs) {g : Nat} {t : TypeId} {cs : Array Value} (hb : W.heap[g]? = some (.cells cs t (0, 0))) (ht : (5 : Nat) ≠ t) (hg : w.heap.size ≤ g) (h0 : w0.heap.size ≤ g) (j : Nat) (u : Value) : LW w0 w (W.setCell ⟨g, j, none⟩ u) P v xs :=
  ⟨h.below.setCell h0 _, Kept.setCell h.kept (.inr hg) u, Kd.R_of_own (h1 := fun _ => rfl) (own_setCell (Kd.own_of_R h.own) (Kd.R_ne h.own hb ht) u) h.own.1⟩
theorem LW.call {w0 w W W' : World} {P : Nat → Prop} {v : Value} {xs ys : List Int} {e : Ending} (h : LW w0 w W P v xs) (hl : LaidB w0 W (fun k => P k ∨ w.heap.size ≤ k) ys e W') : ∃ v', e = .returned v' ∧ LW w0 w W' P v' ys := by
  have := LaidB.through h.kept hl
  obtain ⟨⟨v', rfl, hv⟩, hb, hk⟩ := this
  exact ⟨v', rfl, hb, hk, hv⟩
theorem LW.done {w0 w W : World} {P : Nat → Prop} {v : Value} {xs : List Int} (h : LW w0 w W P v xs) : LaidB w0 w P xs (.returned v) W := ⟨⟨v, rfl, h.own⟩, h.below, h.kept⟩
theorem costs_take (l : List Tm) (i : Nat) (h : i < l.length) : costs (l.take i) + costT l[i] ≤ costs l := by
  have ha : ∀ a b : List Tm, costs (a ++ b) = costs a + costs b := fun a b => by simp [costs]
  have e : costs l = costs (l.take i) + costs (l.drop i) := by rw [← ha, List.take_append_drop]
  have e2 : costs (l.drop i) = costT l[i] + costs (l.drop (i + 1)) := by unfold costs; rw [List.drop_eq_getElem_cons h, List.map_cons, List.sum_cons]
  omega
theorem enc_take {enc : Tm → List Int} (hen : ∀ t, (enc t).length ≤ costT t) : ∀ l : List Tm, (l.flatMap enc).length ≤ costs l
  | [] => by simp [costs]
  | t :: l => by
    have h1 := hen t
    have h2 := enc_take hen l
    simp only [List.flatMap_cons, List.length_append]
    have : costs (t :: l) = costT t + costs l := by simp [costs]
    omega
set_option maxHeartbeats 4000000 in
set_option maxRecDepth 100000 in
theorem layTerm_calls (w0 w : World) (P : Nat → Prop) (v : Value) (xs : List Int) (t : Tm) (hB : Below w0.heap.size w0 w) (ho : Bt w w0.heap.size P v xs) (hl : xs.length + costT t < 140737488355328) :
    Calls Tryd.prog 59 #[v, .agg #[.int .i64 t.f0, .int .i64 t.f1, .string t.f2]] w (LaidB w0 w P (xs ++ encT t)) := by
  have hu23 := Tryd.underlying23
  have hu27 := Tryd.underlying27
  have hu9 := Tryd.underlying9
  have HB := Aside0.mk hB
  have HW0 := Aside0.mk hB.size
  have HO := Aside0.mk (show Bt w w0.heap.size (fun k => P k ∨ w.heap.size ≤ k) v xs from Kd.R_mono ho (fun k hk => .inl hk))
  have HK := Aside0.mk (Kept.refl w P)
  have HL := Aside0.mk (show xs.length + t.f2.size + 16 < 140737488355328 by unfold costT at hl; omega)
  clear hB ho hl
  obtain ⟨k, n, s⟩ := t
  simp only at HL ⊢
  by_cases h1 : k = 1
  · subst h1
    have hr := u64_range n
    have HR := Aside0.mk hr
    clear hr
    go_enter Tryd.func59, Tryd.ntmps59
    go_wp2_with (first
      | ((with_reducible refine gate_dst (N := 3) rfl ?_); refine box_event ?hg (N := 3) ?hd (cs := #[.int .i64 1, .int .i64 n, .string s]) (t := 23) ?hr ?_; (case hd => rfl); (case hg => rfl); (case hr => first | (go_simp; done) | (go_simp; rfl)); intro b3 hb3 w1 hbox hb; have BK := Aside0.mk hbox; have HO1 := Aside0.mk (Kd.R_below HO.out hb); have HB1 := Aside0.mk (below_then HB.out HW0.out hb); have HK1 := Aside0.mk (Kept.below HK.out hb); clear hb3 hbox hb HO HB HK; have p0 := (blk_cell BK.out 0).trans rfl; have p1 := (blk_cell BK.out 1).trans rfl; have p2 := (blk_cell BK.out 2).trans rfl)
      | ((with_reducible refine gate_builtin (b := .append) (xs := #[.tmp 5, .tmp 9]) rfl ?_); at_builtin; refine wpl_byte rfl (.tmp 5) (.tmp 9) 27 rfl Tryd.underlying27 info5 w0.heap.size (fun k => P k ∨ w.heap.size ≤ k) v xs 1 rfl rfl HO1.out (fun k hk => .inr (Nat.le_trans HK1.out.1 hk)) HB1.out.size (by have := HL.out; simp; omega) ?_; intro v2 w2 hR hg; have HO2 := Aside0.mk hR; have BK2 := Aside0.mk (blk_grown BK.out hg (Kd.R_ne HO1.out BK.out (by decide))); have HB2 := Aside0.mk (pw_below_grown HB1.out _ HB1.out.size hg (own_base (Kd.own_of_R HO1.out))); have HK2 := Aside0.mk (Kept.of_grown hg HK1.out (fun k hk => HO1.out.1 k hk)); clear hR hg HO1 HB1 HK1 BK p0 p1 p2; have p0 := (blk_cell BK2.out 0).trans rfl; have p1 := (blk_cell BK2.out 1).trans rfl; have p2 := (blk_cell BK2.out 2).trans rfl)
      | (go_at_call 93; refine (number_laid w0 _ (fun k => P k ∨ w.heap.size ≤ k) v2 (xs ++ [1]) (u64 n) HR.out.1 HR.out.2 HB2.out HO2.out (by have := HL.out; simp; omega)).mono ?_; rintro e w3 hl3; have HE := Aside0.mk (LaidB.through HK2.out hl3); obtain ⟨⟨v3, rfl, _⟩, _, _⟩ := hl3))
    go_ret
    have := HE.out
    have e : xs ++ encT ⟨1, n, s⟩ = xs ++ [1] ++ beI (u64 n) 8 := by simp [encT]
    rw [e]
    exact this
  by_cases h3 : k = 3
  · subst h3
    have hr := u64_range n
    have HR := Aside0.mk hr
    clear hr
    go_enter Tryd.func59, Tryd.ntmps59
    go_wp2_with (first
      | ((with_reducible refine gate_dst (N := 3) rfl ?_); refine box_event ?hg (N := 3) ?hd (cs := #[.int .i64 3, .int .i64 n, .string s]) (t := 23) ?hr ?_; (case hd => rfl); (case hg => rfl); (case hr => first | (go_simp; done) | (go_simp; rfl)); intro b3 hb3 w1 hbox hb; have BK := Aside0.mk hbox; have HO1 := Aside0.mk (Kd.R_below HO.out hb); have HB1 := Aside0.mk (below_then HB.out HW0.out hb); have HK1 := Aside0.mk (Kept.below HK.out hb); clear hb3 hbox hb HO HB HK; have p0 := (blk_cell BK.out 0).trans rfl; have p1 := (blk_cell BK.out 1).trans rfl; have p2 := (blk_cell BK.out 2).trans rfl)
      | ((with_reducible refine gate_builtin (b := .append) (xs := #[.tmp 5, .tmp 9]) rfl ?_); at_builtin; refine wpl_byte rfl (.tmp 5) (.tmp 9) 27 rfl Tryd.underlying27 info5 w0.heap.size (fun k => P k ∨ w.heap.size ≤ k) v xs 3 rfl rfl HO1.out (fun k hk => .inr (Nat.le_trans HK1.out.1 hk)) HB1.out.size (by have := HL.out; simp; omega) ?_; intro v2 w2 hR hg; have HO2 := Aside0.mk hR; have BK2 := Aside0.mk (blk_grown BK.out hg (Kd.R_ne HO1.out BK.out (by decide))); have HB2 := Aside0.mk (pw_below_grown HB1.out _ HB1.out.size hg (own_base (Kd.own_of_R HO1.out))); have HK2 := Aside0.mk (Kept.of_grown hg HK1.out (fun k hk => HO1.out.1 k hk)); clear hR hg HO1 HB1 HK1 BK p0 p1 p2; have p0 := (blk_cell BK2.out 0).trans rfl; have p1 := (blk_cell BK2.out 1).trans rfl; have p2 := (blk_cell BK2.out 2).trans rfl)
      | (go_at_call 93; refine (number_laid w0 _ (fun k => P k ∨ w.heap.size ≤ k) v2 (xs ++ [3]) (u64 n) HR.out.1 HR.out.2 HB2.out HO2.out (by have := HL.out; simp; omega)).mono ?_; rintro e w3 hl3; have HE := Aside0.mk (LaidB.through HK2.out hl3); obtain ⟨⟨v3, rfl, _⟩, _, _⟩ := hl3))
    go_ret
    have := HE.out
    have e : xs ++ encT ⟨3, n, s⟩ = xs ++ [3] ++ beI (u64 n) 8 := by simp [encT]
    rw [e]
    exact this
  by_cases h2 : k = 2
  · subst h2
    have hz : ((s.size : Int) % 256) = IntKind.u8.wrap (s.size : Int) := by simp [IntKind.wrap, IntKind.bits, IntKind.signed]
    have HZ := Aside0.mk hz
    clear hz
    go_enter Tryd.func59, Tryd.ntmps59
    go_wp2_with (first
      | ((with_reducible refine gate_dst (N := 3) rfl ?_); refine box_event ?hg (N := 3) ?hd (cs := #[.int .i64 2, .int .i64 n, .string s]) (t := 23) ?hr ?_; (case hd => rfl); (case hg => rfl); (case hr => first | (go_simp; done) | (go_simp; rfl)); intro b3 hb3 w1 hbox hb; have BK := Aside0.mk hbox; have HO1 := Aside0.mk (Kd.R_below HO.out hb); have HB1 := Aside0.mk (below_then HB.out HW0.out hb); have HK1 := Aside0.mk (Kept.below HK.out hb); clear hb3 hbox hb HO HB HK; have p0 := (blk_cell BK.out 0).trans rfl; have p1 := (blk_cell BK.out 1).trans rfl; have p2 := (blk_cell BK.out 2).trans rfl)
      | ((with_reducible refine gate_builtin (b := .append) (xs := #[.tmp 5, .tmp 9]) rfl ?_); at_builtin; refine wpl_byte rfl (.tmp 5) (.tmp 9) 27 rfl Tryd.underlying27 info5 w0.heap.size (fun k => P k ∨ w.heap.size ≤ k) v xs 2 rfl rfl HO1.out (fun k hk => .inr (Nat.le_trans HK1.out.1 hk)) HB1.out.size (by have := HL.out; simp; omega) ?_; intro v2 w2 hR hg; have HO2 := Aside0.mk hR; have BK2 := Aside0.mk (blk_grown BK.out hg (Kd.R_ne HO1.out BK.out (by decide))); have HB2 := Aside0.mk (pw_below_grown HB1.out _ HB1.out.size hg (own_base (Kd.own_of_R HO1.out))); have HK2 := Aside0.mk (Kept.of_grown hg HK1.out (fun k hk => HO1.out.1 k hk)); clear hR hg HO1 HB1 HK1 BK p0 p1 p2; have p0 := (blk_cell BK2.out 0).trans rfl; have p1 := (blk_cell BK2.out 1).trans rfl; have p2 := (blk_cell BK2.out 2).trans rfl))
    have HNE := Aside0.mk (Kd.R_ne HO2.out BK2.out (by decide))
    have hlt := blk_lt BK2.out
    go_region_held3 (fun w' => w'.cell? ⟨b3, 2, none⟩ = some (.string s))
      (first
        | go_keep
        | exact (blk_cell (blk_grown (blk_drew (blk_alloc BK2.out _)) hgrow HNE.out) 2).trans rfl
        | exact (blk_cell (blk_grown (blk_grown (blk_drew (blk_alloc BK2.out _)) hgrow HNE.out) hgrow2 (Kd.R_ne hR3 (blk_grown (blk_drew (blk_alloc BK2.out _)) hgrow HNE.out) (by decide))) 2).trans rfl
        | assumption)
      (first
        | (refine step_append_byte (by rfl) (.tmp 23) (.tmp 28) 27 (by rfl) Tryd.underlying27 info5 w0.heap.size (fun k => P k ∨ w.heap.size ≤ k) v2 (xs ++ [2]) ((s.size : Int) % 256) w2.heap.size (by rfl) (by rfl) (heap_alloc_new _ _) (Kd.R_drew (Kd.R_alloc HO2.out _)) (fun k hk => .inr (by have := HK2.out.1; simp at hk; omega)) (by have := HB2.out.size; simp; omega) (by have := HL.out; simp; omega) ?_; intro v3 w3 hR3 hgrow)
        | (refine step_append_bstr (by rfl) (.tmp 29) (.tmp 31) 27 9 (by rfl) Tryd.underlying27 Tryd.underlying9 info5 w0.heap.size (fun k => P k ∨ w.heap.size ≤ k) v3 (xs ++ [2] ++ [(s.size : Int) % 256]) s (by rfl) (by rfl) hR3 (fun k hk => .inr (by have := HK2.out.1; have := hgrow.size; simp at this; omega)) (by have := HB2.out.size; have := hgrow.size; simp at this; omega) (by have := HL.out; simp; omega) ?_; intro v4 w4 hR4 hgrow2))
    obtain ⟨hb3', hk3'⟩ := grow_step (below_drew ((HB2.out).alloc HB2.out.size _)) (Kept.drew (Kept.alloc HK2.out _)) (Kd.R_drew (Kd.R_alloc HO2.out _)) hgrow
    obtain ⟨hb4', hk4'⟩ := grow_step hb3' hk3' hR3 hgrow2
    have HE := Aside0.mk (show LaidB w0 w P (xs ++ [2] ++ [(s.size : Int) % 256] ++ bytesOf s) (.returned v4) w4 from ⟨⟨v4, rfl, hR4⟩, hb4', hk4'⟩)
    clear hR3 hR4 hgrow hgrow2 hb3' hk3' hb4' hk4' hlt HNE
    go_wp2
    go_ret
    have e : xs ++ encT ⟨2, n, s⟩ = xs ++ [2] ++ [(s.size : Int) % 256] ++ bytesOf s := by simp [encT]
    rw [e]
    exact HE.out
  have c1 : (k == 1) = false := by simpa using h1
  have c2 : (k == 2) = false := by simpa using h2
  have c3 : (k == 3) = false := by simpa using h3
  have hz : xs ++ encT ⟨k, n, s⟩ = xs ++ [k % 256] := by simp [encT, h1, h2, h3]
  rw [hz]
  clear h1 h2 h3 hz
  go_enter Tryd.func59, Tryd.ntmps59
  go_wp2_with (first
    | ((with_reducible refine gate_dst (N := 3) rfl ?_); refine box_event ?hg (N := 3) ?hd (cs := #[.int .i64 k, .int .i64 n, .string s]) (t := 23) ?hr ?_; (case hd => rfl); (case hg => rfl); (case hr => first | (go_simp; done) | (go_simp; rfl)); intro b3 hb3 w1 hbox hb; have BK := Aside0.mk hbox; have HO1 := Aside0.mk (Kd.R_below HO.out hb); have HB1 := Aside0.mk (below_then HB.out HW0.out hb); have HK1 := Aside0.mk (Kept.below HK.out hb); clear hb3 hbox hb HO HB HK; have p0 := (blk_cell BK.out 0).trans rfl; have p1 := (blk_cell BK.out 1).trans rfl; have p2 := (blk_cell BK.out 2).trans rfl)
    | ((with_reducible refine gate_builtin (b := .append) (xs := #[.tmp 5, .tmp 9]) rfl ?_); at_builtin; refine wpl_byte rfl (.tmp 5) (.tmp 9) 27 rfl Tryd.underlying27 info5 w0.heap.size (fun k => P k ∨ w.heap.size ≤ k) v xs (k % 256) rfl rfl HO1.out (fun k hk => .inr (Nat.le_trans HK1.out.1 hk)) HB1.out.size (by have := HL.out; simp; omega) ?_; intro v2 w2 hR hg; have HO2 := Aside0.mk hR; have BK2 := Aside0.mk (blk_grown BK.out hg (Kd.R_ne HO1.out BK.out (by decide))); have HB2 := Aside0.mk (pw_below_grown HB1.out _ HB1.out.size hg (own_base (Kd.own_of_R HO1.out))); have HK2 := Aside0.mk (Kept.of_grown hg HK1.out (fun k hk => HO1.out.1 k hk)); clear hR hg HO1 HB1 HK1 BK p0 p1 p2; have p0 := (blk_cell BK2.out 0).trans rfl; have p1 := (blk_cell BK2.out 1).trans rfl; have p2 := (blk_cell BK2.out 2).trans rfl))
  go_ret
  exact ⟨⟨v2, rfl, HO2.out⟩, HB2.out, HK2.out⟩
/-- A term is laid into a variable of one's own. -/
theorem L3 {w0 w W : World} {P : Nat → Prop} {v : Value} {xs : List Int} (h : LW w0 w W P v xs) {g : Nat} {a b c : Value} (hb : W.heap[g]? = some (.cells #[a, b, c] 23 (0, 0))) (hg : w.heap.size ≤ g) (h0 : w0.heap.size ≤ w.heap.size) {x y z : Value} :
    LW w0 w (((W.setCell ⟨g, 0, none⟩ x).setCell ⟨g, 1, none⟩ y).setCell ⟨g, 2, none⟩ z) P v xs :=
  ((h.set hb (by decide) hg (Nat.le_trans h0 hg) 0 x).set (blk_set hb 0 x) (by decide) hg (Nat.le_trans h0 hg) 1 y).set (blk_set (blk_set hb 0 x) 1 y) (by decide) hg (Nat.le_trans h0 hg) 2 z
set_option maxHeartbeats 4000000 in
set_option maxRecDepth 100000 in
theorem each_calls (enc : Tm → List Int) (hen : ∀ t, (enc t).length ≤ costT t) (g : Nat) (eg : ∀ args w, (callFunc g args).run Tryd.prog w = .ok (.enter g args) w)
    (hg : ∀ (w0 w : World) (P : Nat → Prop) (v : Value) (xs : List Int) (t : Tm), Below w0.heap.size w0 w → Bt w w0.heap.size P v xs → xs.length + costT t < 140737488355328 → Calls Tryd.prog g #[v, .agg #[.int .i64 t.f0, .int .i64 t.f1, .string t.f2]] w (LaidB w0 w P (xs ++ enc t)))
    (w0 w : World) (P : Nat → Prop) (v : Value) (xs : List Int) (A : Option Addr) (c : Nat) (l : List Tm) (hB : Below w0.heap.size w0 w) (ho : Bt w w0.heap.size P v xs) (hC : Kd.C k23 w0 A l.length l) (hc : l.length ≤ c) (hl : xs.length + costs l < 140737488355328) :
    Calls Tryd.prog 60 #[v, .slice A l.length c, .func (.func g) #[] #[]] w (LaidB w0 w P (xs ++ l.flatMap enc)) := by
  have hu23 := Tryd.underlying23
  have HC := Aside0.mk hC
  have HW0 := Aside0.mk hB.size
  have HS := Aside0.mk (LW.start hB ho)
  have HL := Aside0.mk hl
  have HG := Aside0.mk hg
  have HN := Aside0.mk hen
  have HLC := Aside0.mk (show l.length ≤ 9223372036854775807 by have := hC.2.1; simpa [maxLen] using this)
  clear hB ho hl hC hc hg hen
  go_enter Tryd.func60, Tryd.ntmps60
  go_wp2
  go_loopg [0, 11] l.length (fun gg s0 s11 wr => ∃ i : Int, Aside0 (0 ≤ i ∧ i ≤ (l.length : Int) ∧ (l.length : Int) - i ≤ (gg : Int)) ∧ s11 = .int .i64 i ∧ Aside0 (LW w0 w wr P s0 (xs ++ (l.take i.toNat).flatMap enc)))
  case atStart => exact ⟨0, ⟨by omega, by omega, by omega⟩, rfl, by simpa using HS⟩
  case round =>
    obtain ⟨i, HK, rfl, HO⟩ := hrel
    by_cases hlt : i < (l.length : Int)
    · have hltb : decide (i < (l.length : Int)) = true := decide_eq_true hlt
      have hpos : 0 ≤ i := HK.out.1
      have HLT := Aside0.mk (show i.toNat < l.length by omega)
      have HPOS := Aside0.mk hpos
      obtain ⟨ad, e0, h0, h1, h2⟩ := at_T23 (Kd.C_below HC.out HO.out.below) i hpos hlt
      cases e0
      obtain ⟨x, hx⟩ : ∃ x, rd_T23 l i = x := ⟨_, rfl⟩
      rw [hx] at h0 h1 h2
      have HX := Aside0.mk (show l[i.toNat]'HLT.out = x by rw [← hx]; simp [rd_T23, List.getD_eq_getElem?_getD, List.getElem?_eq_getElem HLT.out])
      have HCALL := Aside0.mk (show ∀ (W : World) (v' : Value), LW w0 w W P v' (xs ++ (l.take i.toNat).flatMap enc) → Calls Tryd.prog g #[v', .agg #[.int .i64 x.f0, .int .i64 x.f1, .string x.f2]] W (fun e w' => ∃ v'', e = .returned v'' ∧ LW w0 w w' P v'' (xs ++ (l.take i.toNat).flatMap enc ++ enc x)) from fun W v' h => by
        have h1 := costs_take l i.toNat HLT.out
        have h2 := enc_take HN.out (l.take i.toNat)
        have h3 := HL.out
        rw [HX.out] at h1
        refine (HG.out w0 W _ v' _ x h.below h.own (by simp only [List.length_append]; omega)).mono (fun e w' hl3 => h.call hl3))
      have hwr : wrap64 (i + 1) = i + 1 := by have := HLC.out; simp only [wrap64]; omega
      have hlt' := eq_true hlt
      have hpos' := eq_true hpos
      clear hlt hpos hx
      go_wp2_with (first
        | ((with_reducible refine gate_dst (N := 8) rfl ?_); refine box_event ?hg (N := 8) ?hd (cs := #[.int .i64 0, .int .i64 0, .string (⟨#[]⟩ : ByteArray)]) (t := 23) ?hr ?_; (case hd => rfl); (case hg => rfl); (case hr => first | (go_simp; done) | (go_simp; rfl)); intro b8 hb8 w1 hbox hb; have BK := Aside0.mk hbox; have H1 := Aside0.mk (HO.out.up hb); have GE := Aside0.mk (show w.heap.size ≤ b8 by have := HO.out.kept.1; omega); clear hb8 hbox hb h0 h1 h2; have p0 := (blk_cell BK.out 0).trans rfl; have p1 := (blk_cell BK.out 1).trans rfl; have p2 := (blk_cell BK.out 2).trans rfl; have f0 := blk_frozen BK.out 0; have f1 := blk_frozen BK.out 1; have f2 := blk_frozen BK.out 2))
      refine (HCALL.out _ _ (L3 H1.out BK.out GE.out HW0.out)).mono ?_
      rintro e w3 ⟨v3, rfl, h3⟩
      have H3 := Aside0.mk h3
      clear h3 p0 p1 p2 f0 f1 f2
      go_wp2
      go_roundg (l.length - (i.toNat + 1))
      case measure => have := HK.out; have := HLT.out; omega
      case rel =>
        refine ⟨i + 1, ⟨by have := HPOS.out; omega, by have := HLT.out; omega, by have := HLT.out; have := HPOS.out; omega⟩, by first | rfl | (simp [hwr]; done) | go_num, ⟨?_⟩⟩
        have e : (i + 1).toNat = i.toNat + 1 := by have := HPOS.out; omega
        have := H3.out
        rw [e, List.take_succ_eq_append_getElem HLT.out, List.flatMap_append, HX.out, List.flatMap_cons, List.flatMap_nil, List.append_nil, ← List.append_assoc]
        exact this
    · have hltb : decide (i < (l.length : Int)) = false := decide_eq_false hlt
      have HN2 := Aside0.mk hlt
      clear hlt
      go_wp2
      go_ret
      have e : l.take i.toNat = l := List.take_of_length_le (by have := HN2.out; omega)
      have := HO.out.done
      rw [e] at this
      exact this
theorem LW.call' {w0 w W W' : World} {P P' : Nat → Prop} {v : Value} {xs ys : List Int} {e : Ending} (h : LW w0 w W P v xs) (hP : ∀ k, P' k → P k ∨ w.heap.size ≤ k) (hl : LaidB w0 W P' ys e W') : ∃ v', e = .returned v' ∧ LW w0 w W' P v' ys := by
  obtain ⟨⟨v', rfl, hv⟩, hb, hk⟩ := hl
  have hs := h.kept.1
  exact ⟨v', rfl, hb, h.kept.then_ hk hP, Kd.R_mono hv (fun k hk => hk.elim (hP k) (fun h => .inr (by omega)))⟩
theorem LW.grow {w0 w W W' : World} {P : Nat → Prop} {v v' : Value} {xs ys : List Int} (h : LW w0 w W P v xs) (hR : Bt W' w0.heap.size (fun k => P k ∨ w.heap.size ≤ k) v' ys) (hg : W.grownBy W' v.ownBlock) : LW w0 w W' P v' ys :=
  ⟨(grow_step h.below h.kept h.own hg).1, (grow_step h.below h.kept h.own hg).2, hR⟩
theorem LW.but {w0 w W : World} {P : Nat → Prop} {v : Value} {xs : List Int} (h : LW w0 w W P v xs) {g : Nat} {t : TypeId} {cs : Array Value} (hb : W.heap[g]? = some (.cells cs t (0, 0))) (ht : (5 : Nat) ≠ t) : Bt W w0.heap.size (fun k => (P k ∨ w.heap.size ≤ k) ∧ k ≠ g) v xs :=
  Kd.R_types h.own hb (fun q hq => by
    have e : q = (5 : Nat) := by simpa [Kd.int, Kd.scalar] using hq
    rw [e]; exact ht)
def costA (t : Tm) (nm : ByteArray) (l : List Tm) : Nat := costT t + nm.size + costs l + 4
set_option maxHeartbeats 4000000 in
set_option maxRecDepth 100000 in
theorem layAtom_calls (w0 w : World) (P : Nat → Prop) (v : Value) (xs : List Int) (t : Tm) (nm : ByteArray) (A : Option Addr) (c : Nat) (l : List Tm) (hB : Below w0.heap.size w0 w) (ho : Bt w w0.heap.size P v xs) (hC : Kd.C k23 w0 A l.length l) (hc : l.length ≤ c) (hl : xs.length + costA t nm l < 140737488355328) :
    Calls Tryd.prog 27 #[v, .agg #[.int .i64 t.f0, .int .i64 t.f1, .string t.f2, .string nm, .slice A l.length c]] w (LaidB w0 w P (xs ++ encA t nm l)) := by
  have hu23 := Tryd.underlying23
  have hu26 := Tryd.underlying26
  have HW0 := Aside0.mk hB.size
  have HS := Aside0.mk (LW.start hB ho)
  have HC := Aside0.mk hC
  have HCC := Aside0.mk hc
  have HL := Aside0.mk (show xs.length + costT t + nm.size + costs l + 4 < 140737488355328 by unfold costA at hl; omega)
  have HT := Aside0.mk (encT_len t)
  have HC2 := Aside0.mk (show l.length ≤ 9223372036854775807 from hC.2.1)
  clear hB ho hl hC hc
  go_enter Tryd.func27, Tryd.ntmps27
  go_wp2_with (first
    | ((with_reducible refine gate_dst (N := 3) rfl ?_); refine box_event ?hg (N := 3) ?hd (cs := #[.int .i64 t.f0, .int .i64 t.f1, .string t.f2, .string nm, .slice A l.length c]) (t := 26) ?hr ?_; (case hd => rfl); (case hg => rfl); (case hr => first | (go_simp; done) | (go_simp; rfl)); intro b3 hb3 w1 hbox hb; have BK := Aside0.mk hbox; have H1 := Aside0.mk (HS.out.up hb); have GE := Aside0.mk (show w.heap.size ≤ b3 by omega); clear hb3 hbox hb; have p0 := (blk_cell BK.out 0).trans rfl; have p1 := (blk_cell BK.out 1).trans rfl; have p2 := (blk_cell BK.out 2).trans rfl; have p3 := (blk_cell BK.out 3).trans rfl; have p4 := (blk_cell BK.out 4).trans rfl))
  refine (layTerm_calls w0 _ (fun k => (P k ∨ w.heap.size ≤ k) ∧ k ≠ b3) v xs t H1.out.below (H1.out.but BK.out (by decide)) (by have := HL.out; omega)).mono ?_
  rintro e w2 hl2
  have BK2 := Aside0.mk (blk_kept BK.out hl2.kept (fun h => h.2 rfl))
  obtain ⟨v2, rfl, h2⟩ := H1.out.call' (fun k hk => hk.1) hl2
  have H2 := Aside0.mk h2
  clear hl2 h2 p0 p1 p2 p3 p4
  have p0 := (blk_cell BK2.out 0).trans rfl
  have p1 := (blk_cell BK2.out 1).trans rfl
  have p2 := (blk_cell BK2.out 2).trans rfl
  have p3 := (blk_cell BK2.out 3).trans rfl
  have p4 := (blk_cell BK2.out 4).trans rfl
  have hlt := blk_lt BK2.out
  have HNE := Aside0.mk (Kd.R_ne H2.out.own BK2.out (by decide))
  go_wp2
  go_region_held3 (fun w' => w'.cell? ⟨b3, 3, none⟩ = some (.string nm))
    (first
      | go_keep
      | exact (blk_cell (blk_grown (blk_drew (blk_alloc BK2.out _)) hgrow HNE.out) 3).trans rfl
      | exact (blk_cell (blk_grown (blk_grown (blk_drew (blk_alloc BK2.out _)) hgrow HNE.out) hgrow2 (Kd.R_ne hR3 (blk_grown (blk_drew (blk_alloc BK2.out _)) hgrow HNE.out) (by decide))) 3).trans rfl
      | assumption)
    (first
      | (refine step_append_byte (by rfl) (.tmp 9) (.tmp 14) 27 (by rfl) Tryd.underlying27 info5 w0.heap.size (fun k => P k ∨ w.heap.size ≤ k) v2 (xs ++ encT t) ((nm.size : Int) % 256) w2.heap.size (by rfl) (by rfl) (heap_alloc_new _ _) (Kd.R_drew (Kd.R_alloc H2.out.own _)) (fun k hk => .inr (by have := H2.out.kept.1; simp at hk; omega)) (by have := H2.out.below.size; simp; omega) (by have := HL.out; have := HT.out; simp; omega) ?_; intro v3 w3 hR3 hgrow)
      | (refine step_append_bstr (by rfl) (.tmp 15) (.tmp 17) 27 9 (by rfl) Tryd.underlying27 Tryd.underlying9 info5 w0.heap.size (fun k => P k ∨ w.heap.size ≤ k) v3 (xs ++ encT t ++ [(nm.size : Int) % 256]) nm (by rfl) (by rfl) hR3 (fun k hk => .inr (by have := H2.out.kept.1; have := hgrow.size; simp at this; omega)) (by have := H2.out.below.size; have := hgrow.size; simp at this; omega) (by have := HL.out; have := HT.out; simp; omega) ?_; intro v4 w4 hR4 hgrow2))
  have BK3 := Aside0.mk (blk_grown (blk_drew (blk_alloc BK2.out _)) hgrow HNE.out)
  have BK4 := Aside0.mk (blk_grown BK3.out hgrow2 (Kd.R_ne hR3 BK3.out (by decide)))
  have H3 := Aside0.mk ((H2.out.up (below_drew (below_alloc (Below.refl _ _) _))).grow hR3 hgrow)
  have H4 := Aside0.mk (H3.out.grow hR4 hgrow2)
  clear hR3 hR4 hgrow hgrow2 hlt HNE p0 p1 p2 p3 p4
  have p0 := (blk_cell BK4.out 0).trans rfl
  have p1 := (blk_cell BK4.out 1).trans rfl
  have p2 := (blk_cell BK4.out 2).trans rfl
  have p3 := (blk_cell BK4.out 3).trans rfl
  have p4 := (blk_cell BK4.out 4).trans rfl
  have hlt := blk_lt BK4.out
  have HNE := Aside0.mk (Kd.R_ne H4.out.own BK4.out (by decide))
  have hlen0 : (0 : Int) ≤ (l.length : Int) := by omega
  go_wp2
  go_region_held3 (fun w' => w'.cell? ⟨b3, 4, none⟩ = some (.slice A l.length c))
    (first
      | go_keep
      | exact (blk_cell (blk_grown (blk_drew (blk_alloc BK4.out _)) hgrow HNE.out) 4).trans rfl
      | exact (blk_cell (blk_kept (blk_grown (blk_drew (blk_alloc BK4.out _)) hgrow HNE.out) hl6.kept (fun h => h.2 rfl)) 4).trans rfl
      | assumption)
    (first
      | (refine step_append_byte (by rfl) (.tmp 19) (.tmp 24) 27 (by rfl) Tryd.underlying27 info5 w0.heap.size (fun k => P k ∨ w.heap.size ≤ k) v4 (xs ++ encT t ++ [(nm.size : Int) % 256] ++ bytesOf nm) ((l.length : Int) % 256) w4.heap.size (by rfl) (by rfl) (heap_alloc_new _ _) (Kd.R_drew (Kd.R_alloc H4.out.own _)) (fun k hk => .inr (by have := H4.out.kept.1; simp at hk; omega)) (by have := H4.out.below.size; simp; omega) (by have := HL.out; have := HT.out; simp [bytesOf_length]; omega) ?_; intro v5 w5 hR5 hgrow)
      | (go_at_call 60; refine (each_calls encT encT_len 59 (enters_of Tryd.func59 (by kernel_rfl) rfl) (fun w0 w P v xs t h1 h2 h3 => layTerm_calls w0 w P v xs t h1 h2 h3) w0 _ (fun k => (P k ∨ w.heap.size ≤ k) ∧ k ≠ b3) v5 _ A c l ((H4.out.up (below_drew (below_alloc (Below.refl _ _) _))).grow hR5 hgrow).below (((H4.out.up (below_drew (below_alloc (Below.refl _ _) _))).grow hR5 hgrow).but (blk_grown (blk_drew (blk_alloc BK4.out _)) hgrow HNE.out) (by decide)) HC.out HCC.out (by have := HL.out; have := HT.out; simp [bytesOf_length]; omega)).mono ?_; rintro e w6 hl6; obtain ⟨v6, rfl, h6⟩ := ((H4.out.up (below_drew (below_alloc (Below.refl _ _) _))).grow hR5 hgrow).call' (fun k hk => hk.1) hl6))
  have HE := Aside0.mk h6.done
  clear h6 hl6 hR5 hgrow hlt HNE p0 p1 p2 p3 p4
  go_wp2
  go_ret
  have e : xs ++ encA t nm l = xs ++ encT t ++ [(nm.size : Int) % 256] ++ bytesOf nm ++ [(l.length : Int) % 256] ++ l.flatMap encT := by simp [encA, encTs]
  rw [e]
  exact HE.out
end Go.Proofs.YtdplpcedfkfajaaDoor.T
