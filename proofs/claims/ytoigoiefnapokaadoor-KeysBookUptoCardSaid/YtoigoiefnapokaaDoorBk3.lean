/- Three rings beside one another. -/
import Derived.Test.YtoigoiefnapokaaDoorBk1
import Derived.Test.YtoigoiefnapokaaDoorGKJoin
import Derived.Test.YtoigoiefnapokaaDoorBk2
import Derived.Laws.IdiomStrings
set_option linter.unusedVariables false
set_option linter.unusedSimpArgs false
namespace Go.Proofs.YtoigoiefnapokaaDoor.T
open Go.RowKit Go.Maps Go.MuLone Go.Proofs.YtoigoiefnapokaaDoorW.PrintWords Go.Proofs.YtoigoiefnapokaaDoorW.PrintLast
theorem reads_ne {w : World} {ad : Addr} {n : Nat} {b : List Int} (h : ReadsInt w .u8 (some ad) n b) (hn : 0 < n) {P : Program} {k : TypeId} {R : Value → Option (DataW Value × List MemPlace)} {g m : Nat} {D : DataW Value} (hm : w.ownsMap P k R g m D) : ad.block ≠ g := by
  intro e
  obtain ⟨h1, _, h3⟩ := h
  obtain ⟨ad', had, hc⟩ := h3 hn
  cases had
  have h0 := hc 0 (by omega)
  obtain ⟨es, c, he, _⟩ := hm
  have e2 : ad.add 0 = ad := by simp [Addr.add]
  rw [e2] at h0
  unfold World.cell? at h0
  rw [e, he] at h0
  simp at h0
section
variable {x y z : RV} {w W W' : World} {sec oth : List Int} {ps pa pb pc : List Pr} {n : Nat}
theorem Keys.other (h : Keys y w W sec ps) {g m : Nat} {D : DataW Value} (hk : KeepBut W W' g none) (hm : W.ownsMap Tryd.prog 69 RD g m D) (h1 : y.bk ≠ g) (h2 : y.bs ≠ g) (hb : Below w.heap.size w W') : Keys y w W' sec ps :=
  ⟨h.at_.keep hk (map_cells hm h.at_.blk).symm h1 h2 (fun ad had hp => reads_ne (had ▸ h.at_.reads) hp hm), h.keys, h.signed, h.ns, h.sec, hb⟩
theorem enrolled_keys (w W : World) (hB : Below w.heap.size w W) (A : Option Addr) (c : Nat) (b : List Int) (hR : ReadsInt w .u8 A b.length b) (hn : b.length ≤ 140737488355328) (hF : LaidF w) (hL : LaidR w) :
    Calls Tryd.prog 7 #[.slice A b.length c] W fun e w' => ∃ x : RV, e = .returned (.pointer (some ⟨x.b, 0, none⟩)) ∧ Keys x w w' b [] ∧ OnlyP x.Ds ∧ W.heap.size ≤ x.bk ∧ W.heap.size ≤ x.bs ∧ Below W.heap.size W w' := by
  refine (enrolled_calls W A c b (hR.below hB) hn (hF.up hB) (hL.up hB)).mono ?_
  rintro e w' ⟨x, rfl, hx, hs, hk, hns, hds, hb⟩
  refine ⟨x, rfl, ⟨⟨hx.blk, hx.reads, hx.far, hx.cap, hx.keys, hx.signed, ⟨Nat.le_trans hB.size hx.base.1, Nat.le_trans hB.size hx.base.2.1, Nat.le_trans hB.size hx.base.2.2⟩, hx.ne⟩, hk, by rw [hds, sf_nil]; exact says_nil, hns, hs, below_step hB hb⟩, by rw [hds]; exact onlyP_nil, hx.base.2.1, hx.base.2.2, hb⟩
theorem keys_count0 (h : Keys x w W sec []) (hO : OnlyP x.Ds) (n : Int) :
    Calls Tryd.prog 17 #[.pointer (some ⟨x.b, 0, none⟩), .string (nm n)] W fun e w' => ∃ (A : Option Addr) (c : Nat), e = .returned (.slice A 0 c) ∧ Below W.heap.size W w' := by
  refine (slist_calls W x _ h.at_ hO (nm n) (nm_okS n) (by rw [h.ns]; decide)).mono ?_
  rintro e w' ⟨A, c, ds, rfl, hnd, hm, _, _, hb⟩
  have e0 : ds = [] := by
    refine List.eq_nil_iff_forall_not_mem.2 (fun d hd => ?_)
    have h1 := (hm d).1 hd
    rw [h.signed.has (nm n, d.1) ⟨nm_okS n, d.2⟩, sf_nil] at h1
    cases h1
  subst e0
  exact ⟨A, c, rfl, hb⟩
theorem keys_count1 {n : Int} {d : List Int} (h : Keys x w W sec [(n, d)]) (hd : IsD d) (hO : OnlyP x.Ds) :
    Calls Tryd.prog 17 #[.pointer (some ⟨x.b, 0, none⟩), .string (nm n)] W fun e w' => ∃ (A : Option Addr) (c : Nat), e = .returned (.slice A 1 c) ∧ Below W.heap.size W w' := by
  refine (slist_calls W x _ h.at_ hO (nm n) (nm_okS n) (by rw [h.ns, List.length_singleton]; omega)).mono ?_
  rintro e w' ⟨A, c, ds, rfl, hnd, hm, _, _, hb⟩
  have hi : ∀ f : Dg, f ∈ ds ↔ f = ⟨d, hd⟩ := by
    intro f
    rw [hm f, h.signed.has (nm n, f.1) ⟨nm_okS n, f.2⟩]
    unfold sf
    constructor
    · intro h1
      split at h1
      · rename_i hx
        obtain ⟨p, hp, e⟩ := hx
        rw [List.mem_singleton.1 hp] at e
        exact Subtype.ext (congrArg Prod.snd e)
      · cases h1
    · rintro rfl
      rw [if_pos ⟨(n, d), List.mem_singleton.2 rfl, rfl⟩]
      rfl
  have e1 : ds.length = 1 := by
    match ds, hnd, hi with
    | [], _, hi => exact absurd ((hi ⟨d, hd⟩).2 rfl) (by simp)
    | [a], _, _ => rfl
    | a :: b :: r, hnd, hi =>
      have ha := (hi a).1 (by simp)
      have hb := (hi b).1 (by simp)
      rw [ha, hb] at hnd
      simp at hnd
  rw [e1]
  exact ⟨A, c, rfl, hb⟩
structure Three (n : Nat) (x y z : RV) (w W : World) (sec oth : List Int) (pa pb pc : List Pr) : Prop where
  kx : Keys x w W sec pa
  ky : Keys y w W sec pb
  kz : Keys z w W oth pc
  ox : OnlyP x.Ds
  oy : OnlyP y.Ds
  un : x.under n ∧ y.under n ∧ z.under n ∧ w.heap.size ≤ n
  xy : y.bk ≠ x.bs ∧ y.bs ≠ x.bs ∧ x.bk ≠ y.bs
  xz : z.bk ≠ x.bs ∧ z.bs ≠ x.bs ∧ x.bk ≠ z.bs
  yz : z.bk ≠ y.bs ∧ z.bs ≠ y.bs ∧ y.bk ≠ z.bs
theorem Three.low (h : Three n x y z w W sec oth pa pb pc) (hb : Below W.heap.size W W') : Three n x y z w W' sec oth pa pb pc := ⟨h.kx.low hb, h.ky.low hb, h.kz.low hb, h.ox, h.oy, h.un, h.xy, h.xz, h.yz⟩
theorem Three.drew (h : Three n x y z w W sec oth pa pb pc) : Three n x y z w W.drew sec oth pa pb pc := ⟨h.kx.drew, h.ky.drew, h.kz.drew, h.ox, h.oy, h.un, h.xy, h.xz, h.yz⟩
theorem Three.row (h : Three n x y z w W sec oth pa pb pc) {b : Nat} (hn : n ≤ b) (cs : Array Value) : Three n x y z w (W.setRow b cs) sec oth pa pb pc :=
  ⟨h.kx.row h.un.1 hn (Nat.le_trans h.un.2.2.2 hn) cs, h.ky.row h.un.2.1 hn (Nat.le_trans h.un.2.2.2 hn) cs, h.kz.row h.un.2.2.1 hn (Nat.le_trans h.un.2.2.2 hn) cs, h.ox, h.oy, h.un, h.xy, h.xz, h.yz⟩
theorem Three.signX (h : Three n x y z w W sec oth pa pb pc) {b : Nat} (hb : x.b = b) (hF : LaidF w) (hL : LaidR w) (m : Int) (d v : List Int) (hv : sealf sec (m, d) = v) (hd : IsD d) (hl : pa.length < 100000) :
    Calls Tryd.prog 11 #[.pointer (some ⟨b, 0, none⟩), .string (nm m), .agg (nums .u8 d).toArray] W fun e w' => e = .returned (.tuple #[.agg (nums .u8 v).toArray, .int .i64 0]) ∧ KeepBut W w' x.bs none ∧ Three n (x.signedWith (nm m) d v) y z w w' sec oth (pa ++ [(m, d)]) pb pc := by
  refine (h.kx.signB hb hF hL m d v hv hd hl).mono ?_
  rintro e w' ⟨rfl, hk, hx⟩
  exact ⟨rfl, hk, hx, h.ky.other hk h.kx.at_.signed h.xy.1 h.xy.2.1 hx.below, h.kz.other hk h.kx.at_.signed h.xz.1 h.xz.2.1 hx.below, h.ox.put ⟨nm_okS m, hd⟩ h.kx.at_.signed.isMap _, h.oy, h.un, h.xy, h.xz, h.yz⟩
theorem Three.signY (h : Three n x y z w W sec oth pa pb pc) {b : Nat} (hb : y.b = b) (hF : LaidF w) (hL : LaidR w) (m : Int) (d v : List Int) (hv : sealf sec (m, d) = v) (hd : IsD d) (hl : pb.length < 100000) :
    Calls Tryd.prog 11 #[.pointer (some ⟨b, 0, none⟩), .string (nm m), .agg (nums .u8 d).toArray] W fun e w' => e = .returned (.tuple #[.agg (nums .u8 v).toArray, .int .i64 0]) ∧ KeepBut W w' y.bs none ∧ Three n x (y.signedWith (nm m) d v) z w w' sec oth pa (pb ++ [(m, d)]) pc := by
  refine (h.ky.signB hb hF hL m d v hv hd hl).mono ?_
  rintro e w' ⟨rfl, hk, hx⟩
  exact ⟨rfl, hk, h.kx.other hk h.ky.at_.signed h.xy.2.2 h.xy.2.1.symm hx.below, hx, h.kz.other hk h.ky.at_.signed h.yz.1 h.yz.2.1 hx.below, h.ox, h.oy.put ⟨nm_okS m, hd⟩ h.ky.at_.signed.isMap _, h.un, h.xy, h.xz, h.yz⟩
theorem Three.signZ (h : Three n x y z w W sec oth pa pb pc) {b : Nat} (hb : z.b = b) (hF : LaidF w) (hL : LaidR w) (m : Int) (d v : List Int) (hv : sealf oth (m, d) = v) (hd : IsD d) (hl : pc.length < 100000) :
    Calls Tryd.prog 11 #[.pointer (some ⟨b, 0, none⟩), .string (nm m), .agg (nums .u8 d).toArray] W fun e w' => e = .returned (.tuple #[.agg (nums .u8 v).toArray, .int .i64 0]) ∧ KeepBut W w' z.bs none ∧ Three n x y (z.signedWith (nm m) d v) w w' sec oth pa pb (pc ++ [(m, d)]) := by
  refine (h.kz.signB hb hF hL m d v hv hd hl).mono ?_
  rintro e w' ⟨rfl, hk, hx⟩
  exact ⟨rfl, hk, h.kx.other hk h.kz.at_.signed h.xz.2.2 h.xz.2.1.symm hx.below, h.ky.other hk h.kz.at_.signed h.yz.2.2 h.yz.2.1.symm hx.below, hx, h.ox, h.oy, h.un, h.xy, h.xz, h.yz⟩
end
end Go.Proofs.YtoigoiefnapokaaDoor.T
namespace Go.Proofs.YtoigoiefnapokaaDoor.T
open Go.RowKit Go.Maps Go.MuLone Go.Proofs.YtoigoiefnapokaaDoorW.PrintWords Go.Proofs.YtoigoiefnapokaaDoorW.PrintLast
/-- What follows in a sequence; what stands first; a block's inside; a function's code. -/
def codeNext : Code → Code
  | .seq _ b => b
  | c => c
def codeFirst : Code → Code
  | .seq a _ => a
  | c => c
def codeIn : Code → Code
  | .block _ a => a
  | .loop a => a
  | c => c
def codeOf (f : Func) : Code := f.body.getD .skip
noncomputable def tailCode : Code := codeNext (codeNext (codeNext (codeNext (codeNext (codeNext (codeNext (codeNext (codeNext (codeNext (codeNext (codeNext (codeNext (codeNext (codeNext (codeOf Tryd.f3)))))))))))))))
noncomputable def in5 : Code := (codeIn (codeFirst (codeNext (codeIn (codeIn (codeNext (codeFirst (codeNext (codeIn (codeFirst (codeNext (codeIn (codeIn (codeNext (codeFirst tailCode)))))))))))))))
/-- The code ends normally and leaves what F says in the temporaries ks. -/
def joined (P : Program) (c : Code) (ks : List Tmp) (F : (Tmp → Value) → World → Prop) (a : Act) (w : World) : Prop :=
  Code.wp P c (fun e a' w' => e = .normal ∧ a' = putAll a (ks.map fun n => (n, a'.tmps.getD n undef)) ∧ F (fun n => a'.tmps.getD n undef) w') a w
end Go.Proofs.YtoigoiefnapokaaDoor.T
namespace Go.Proofs.YtoigoiefnapokaaDoor.T
open Go.RowKit Go.Maps Go.MuLone Go.Sort Go.Proofs.YtoigoiefnapokaaDoorW.PrintWords Go.Proofs.YtoigoiefnapokaaDoorW.PrintLast
theorem bl_lt : ∀ {a b : List UInt8}, a < b → Op.bytesLess a b = true
  | [], [], h => absurd h (List.lt_irrefl _)
  | [], y :: s, _ => rfl
  | x :: r, [], h => absurd h (List.not_lt_nil _)
  | x :: r, y :: s, h => by
    rcases List.cons_lt_cons_iff.1 h with h1 | ⟨h1, h2⟩
    · simp [Op.bytesLess, h1]
    · subst h1
      have h3 := bl_lt h2
      simp [Op.bytesLess, h3]
theorem cb_lt : ∀ {a b : List UInt8}, Lib.compareBytes a b < 0 → Op.bytesLess a b = true
  | [], [], h => by simp [Lib.compareBytes] at h
  | [], y :: s, _ => rfl
  | x :: r, [], h => by simp [Lib.compareBytes] at h
  | x :: r, y :: s, h => by
    unfold Lib.compareBytes at h
    by_cases h1 : x < y
    · simp [Op.bytesLess, h1]
    · rw [if_neg h1] at h
      by_cases h2 : y < x
      · rw [if_pos h2] at h; omega
      · rw [if_neg h2] at h
        have e : x = y := by
          rw [UInt8.lt_iff_toNat_lt] at h1 h2
          exact UInt8.toNat_inj.1 (by omega)
        subst e
        have := cb_lt h
        simp [Op.bytesLess, this]
section
variable {o : Oper} {a : Act} {w : World}
theorem geqS_run (x y : Operand) (ty : TypeId) (ho : o.op = .binOp .geq 9 x y ty) (s t : ByteArray) (hx : a.eval x = .string s) (hy : a.eval y = .string t) (h : Op.bytesLess s.data.toList t.data.toList = true) : (execOp a.eval o).run Tryd.prog w = .ok (.value (.bool false)) w := by
  have h2 : Op.bytesLess s.toList t.toList = true := by rw [ByteArray.toList_eq, ByteArray.toList_eq]; exact h
  unfold execOp
  simp only [ho, hx, hy]
  have h3 : binOp .geq 9 (.string s) (.string t) = pure (.bool !(Op.bytesLess s.toList t.toList)) := by simp [binOp, Op.stringOp]
  rw [h3, h2]
  rfl
end
theorem has_str_le {w : World} {b n : Nat} {D : DataW Value} (h : w.ownsMap Tryd.prog 9 RD b n D) {s : List UInt8} (hs : Maps.has D (.string s) = true) : s.length ≤ maxLen := by
  obtain ⟨es, rfl, hko⟩ := h.keysOf
  rw [Maps.has_eq, List.any_eq_true] at hs
  obtain ⟨p, hp, he⟩ := hs
  have e := WideAt.sameKey_eq he
  obtain ⟨v, hv⟩ := hko p hp
  obtain ⟨x, _, hx, hl⟩ := Maps.keyOf_str Tryd.underlying9 hv
  rw [e] at hx
  injection hx with hx
  rw [hx]
  exact hl
section
variable {x : RV} {w W : World} {sec : List Int} {ps : List Pr}
def names8 : List (List UInt8) := (List.range 8).map fun j : Nat => (nm (j : Int)).data.toList
theorem names8_nd : names8.Nodup := by
  refine List.pairwise_map.2 (List.nodup_range.imp_of_mem fun {i j} hi hj hne e => hne ?_)
  have hi := List.mem_range.1 hi
  have hj := List.mem_range.1 hj
  have e2 : nm (i : Int) = nm (j : Int) := ByteArray.ext (Array.toList_inj.1 e)
  have := nm_inj e2
  rw [nix_of i hi, nix_of j hj] at this
  exact this
theorem Keys.names_mem (h : Keys x w W sec ps) (b : List UInt8) : b ∈ names8 ↔ Maps.has x.Dk (.string b) = true := by
  unfold names8
  rw [List.mem_map]
  constructor
  · rintro ⟨j, hj, rfl⟩
    have h2 := h.keys.has (nm (j : Int)) (nm_okS _)
    rw [show klS (nm (j : Int)) = .string (nm (j : Int)).data.toList from rfl] at h2
    rw [h2, gf_all]
    rfl
  · intro hh
    have hl := has_str_le h.at_.keys hh
    have h2 := h.keys.has ⟨b.toArray⟩ (show okS ⟨b.toArray⟩ from by unfold okS; simpa [ByteArray.size] using hl)
    rw [show klS ⟨b.toArray⟩ = .string b from rfl, hh] at h2
    unfold gf at h2
    split at h2
    · rename_i hx
      obtain ⟨j, hj, e⟩ := hx
      exact ⟨j, List.mem_range.2 hj, by rw [← e]⟩
    · cases h2
theorem Keys.size8 (h : Keys x w W sec ps) : Maps.size x.Dk = 8 := by
  rw [← strKeys_len h.at_.keys]
  obtain ⟨es, hD, hpw, _⟩ := h.at_.keys.entries lawS
  obtain ⟨es', hD', hko⟩ := h.at_.keys.keysOf
  obtain rfl : es = es' := by rw [hD] at hD'; simpa using hD'
  have hm := h.names_mem
  rw [hD] at hm ⊢
  have hp := perm_strKeys hpw (fun p hp => by obtain ⟨v, hv⟩ := hko p hp; obtain ⟨x, _, hx, _⟩ := Maps.keyOf_str Tryd.underlying9 hv; exact ⟨x, hx⟩) names8_nd hm
  rw [← hp.length_eq]
  simp [names8]
theorem Keys.names (h : Keys x w W sec ps) :
    Calls Tryd.prog 16 #[.pointer (some ⟨x.b, 0, none⟩)] W fun e w' => ∃ (A : Option Addr) (c : Nat) (ts : List (List UInt8)), e = .returned (.slice A ts.length c) ∧ ts.length = 8 ∧ ts.Pairwise (fun a b => a < b) ∧ kS.R 9 w' W.heap.size (fun _ => True) (.slice A ts.length c) ts ∧ Below W.heap.size W w' := by
  refine (nlist2_calls W x _ h.at_ (by rw [h.size8]; decide) (by rw [h.size8]; decide)).mono ?_
  rintro e w' ⟨A, c, ts, rfl, hl, _, hs, hR, hb⟩
  exact ⟨A, c, ts, rfl, by rw [hl, h.size8], hs, hR, hb⟩
theorem Keys.list (h : Keys x w W sec ps) (hO : OnlyP x.Ds) (hl : ps.length ≤ 100000) (n : Int) :
    Calls Tryd.prog 17 #[.pointer (some ⟨x.b, 0, none⟩), .string (nm n)] W fun e w' => ∃ (A : Option Addr) (c : Nat) (ds : List Dg), e = .returned (.slice A ds.length c) ∧ ds.Nodup ∧ (∀ d : Dg, d ∈ ds ↔ ∃ p ∈ ps, nm p.1 = nm n ∧ p.2 = d.1) ∧ ds.Pairwise (fun a b => cfD a b < 0) ∧ kD.C w' A ds.length (ds.map (·.1)) ∧ Below W.heap.size W w' := by
  refine (slist_calls W x _ h.at_ hO (nm n) (nm_okS n) (by rw [h.ns]; exact hl)).mono ?_
  rintro e w' ⟨A, c, ds, rfl, hnd, hm, hs, hR, hb⟩
  refine ⟨A, c, ds, rfl, hnd, fun d => ?_, ?_, ?_, hb⟩
  · rw [hm d, h.signed.has (nm n, d.1) ⟨nm_okS n, d.2⟩]
    unfold sf
    constructor
    · intro h1
      split at h1
      · rename_i hx
        obtain ⟨p, hp, e⟩ := hx
        exact ⟨p, hp, (congrArg Prod.fst e).symm, (congrArg Prod.snd e).symm⟩
      · cases h1
    · rintro ⟨p, hp, h1, h2⟩
      rw [if_pos ⟨p, hp, by rw [h1, h2]⟩]
      rfl
  · refine (hs.and hnd).imp ?_
    rintro a b ⟨h1, h2⟩
    have s1 := cb_swap (Lib.bytesOf a.1) (Lib.bytesOf b.1)
    unfold cfD at h1 ⊢
    by_cases h3 : Lib.compareBytes (Lib.bytesOf a.1) (Lib.bytesOf b.1) = 0
    · exact absurd (Subtype.ext (lb_inj a.2.2 b.2.2 (cb_zero _ _ h3))) h2
    · omega
  · obtain ⟨h1, h2, h3⟩ := Kd.R_reads' hR
    rw [List.length_map] at h3
    exact h3
end
end Go.Proofs.YtoigoiefnapokaaDoor.T
namespace Go.Proofs.YtoigoiefnapokaaDoor.T
open Go.RowKit Go.Maps Go.MuLone Go.Proofs.YtoigoiefnapokaaDoorW.PrintWords Go.Proofs.YtoigoiefnapokaaDoorW.PrintLast
noncomputable def bookCode : Code := codeOf Tryd.f6
noncomputable def bookIn : Code := (codeIn (codeFirst (codeNext (codeIn (codeIn (codeNext (codeFirst (codeNext (codeNext (codeNext (codeNext (codeNext (codeNext (codeNext bookCode))))))))))))))
/-- The code ends by leaving block n, with what F says in the temporaries ks. -/
def left (P : Program) (n : Nat) (c : Code) (ks : List Tmp) (F : (Tmp → Value) → World → Prop) (a : Act) (w : World) : Prop :=
  Code.wp P c (fun e a' w' => e = .exit n ∧ a' = putAll a (ks.map fun n => (n, a'.tmps.getD n undef)) ∧ F (fun n => a'.tmps.getD n undef) w') a w
theorem wp_left {P : Program} {n : Nat} {c : Code} {Q : Exit → Act → World → Prop} {a : Act} {w : World} (ks : List Tmp) (F : (Tmp → Value) → World → Prop)
    (hcont : ∀ j w', F j w' → Q (.exit n) (putAll a (ks.map fun n => (n, j n))) w') (h : left P n c ks F a w) : Code.wp P c Q a w := by
  refine Code.wp_mono ?_ h
  rintro e a' w' ⟨rfl, he, hF⟩
  rw [he]
  exact hcont _ w' hF
set_option maxHeartbeats 8000000 in
set_option maxRecDepth 100000 in
theorem book_told {W : World} {A1 A2 : Option Addr} {c1 c2 : Nat} {sg : List Pr} {ds : List (List Int)} {k : Int} {z0 z2 z3 z4 z5 z6 z7 z8 z9 z10 z13 z14 z15 z17 z18 z19 z20 z21 z22 z23 z24 z25 z26 z27 z28 z29 z30 z31 z32 z33 z34 z35 z36 z37 z38 z39 z40 z41 z42 z43 z44 z45 z46 z47 z48 z49 z50 z51 z52 z53 z54 z55 z56 z57 z58 z59 z60 z61 z62 z63 z64 z65 z66 z67 z68 z69 z70 z71 z72 z73 z74 z75 z76 z77 z78 z79 z80 z81 z82 z83 z84 z85 z86 z87 z88 z89 z90 z91 z92 z93 z94 z95 z96 z97 z98 z99 z100 z101 z102 z103 z104 z105 z106 z107 z108 z109 z110 z111 z112 z113 z114 z115 z116 z117 z118 z119 z120 z121 z122 z123 z124 z125 z126 z127 z128 z129 z130 z131 z132 z133 z134 z135 z136 z137 z138 z139 z140 z141 z142 z143 z144 z145 z146 z147 z148 z149 z150 z151 z152 z153 z154 z155 z156 z157 z158 z159 z160 z161 z162 z163 z164 z165 z166 z167 : Value} (H1 : Aside0 (kP.C W A1 sg.length sg)) (HS : Aside0 (∀ p ∈ sg, IsD p.2)) (HD : Aside0 (kD.C W A2 ds.length ds)) (HDI : Aside0 (∀ d ∈ ds, IsD d)) (HEX : Aside0 (∀ d ∈ ds, ∃ (i : Nat) (p : Pr), sg[i]? = some p ∧ i < 40 ∧ nm p.1 = nm k ∧ p.2 = d)) (HN : Aside0 (ds.length ≤ 100000)) (HNS : Aside0 (sg.length ≤ 1099511627776)) :
    left Tryd.prog 10 (codeIn (codeNext (codeNext (codeNext (codeNext (codeNext (codeNext bookIn))))))) [4, 16, 145, 146, 147, 148, 149, 150, 151, 152, 153, 154, 155, 156, 157, 158] (fun j W' => Below W.heap.size W W') ⟨#[z0, .slice A1 sg.length c1, z2, z3, z4, z5, z6, z7, z8, z9, z10, .int .i64 (k : Int), .slice A2 ds.length c2, z13, z14, z15, .int .i64 0, z17, z18, z19, z20, z21, z22, z23, z24, z25, z26, z27, z28, z29, z30, z31, z32, z33, z34, z35, z36, z37, z38, z39, z40, z41, z42, z43, z44, z45, z46, z47, z48, z49, z50, z51, z52, z53, z54, z55, z56, z57, z58, z59, z60, z61, z62, z63, z64, z65, z66, z67, z68, z69, z70, z71, z72, z73, z74, z75, z76, z77, z78, z79, z80, z81, z82, z83, z84, z85, z86, z87, z88, z89, z90, z91, z92, z93, z94, z95, z96, z97, z98, z99, z100, z101, z102, z103, z104, z105, z106, z107, z108, z109, z110, z111, z112, z113, z114, z115, z116, z117, z118, z119, z120, z121, z122, z123, z124, z125, z126, z127, z128, z129, z130, z131, z132, z133, z134, z135, z136, z137, z138, z139, z140, z141, z142, z143, z144, z145, z146, z147, z148, z149, z150, z151, z152, z153, z154, z155, z156, z157, z158, z159, z160, z161, z162, z163, z164, z165, z166, z167], []⟩ W := by
  dsimp only [bookIn, bookCode, codeOf, codeNext, codeFirst, codeIn, Tryd.f6, Option.getD]
  unfold left
  go_loopg [16] ds.length (fun gg s16 wr => ∃ (i : Nat), Aside0 (i ≤ ds.length ∧ ds.length - i ≤ gg) ∧ s16 = .int .i64 (i : Int) ∧ Aside0 (Below W.heap.size W wr))
  case atStart => exact ⟨0, ⟨Nat.zero_le _, Nat.le_refl _⟩, rfl, ⟨Below.refl _ _⟩⟩
  case round =>
    obtain ⟨i, HI, rfl, HB⟩ := hrel
    by_cases hlt : i < ds.length
    · have HLT := Aside0.mk hlt
      have c0 : decide ((i : Int) < (ds.length : Int)) = true := decide_eq_true (by omega)
      have c1' : decide (i < ds.length) = true := decide_eq_true hlt
      obtain ⟨d, hd⟩ : ∃ d, ds[i]? = some d := ⟨_, List.getElem?_eq_getElem hlt⟩
      have HDD := Aside0.mk hd
      have HDM := Aside0.mk (List.mem_of_getElem? hd)
      have HDX := Aside0.mk (HDI.out d HDM.out)
      obtain ⟨ad, had, _⟩ := HD.out.2.2 (by omega)
      subst had
      have p0 : (0 : Int) ≤ (i : Int) := by omega
      have en : (i : Int) + 1 = ((i + 1 : Nat) : Int) := by omega
      have mn : i + 1 ≤ 9223372036854775807 := by have := HN.out; omega
      obtain ⟨hwn, hvn⟩ := idx_at en mn
      have htl := fun (wq : World) (hq : Below W.heap.size W wq) => told_calls wq A1 c1 sg (Kd.C_below H1.out hq) HS.out k d HDX.out (HEX.out d HDM.out) (by have := HNS.out; omega)
      have HTL := Aside0.mk htl
      clear en mn hlt hd htl
      go_wp2_with (first
        | ((with_reducible refine gate_dst (N := 155) rfl ?_); go_loud (refine Kd.event_run rfl (idxD_run (.tmp 153) (.tmp 154) rfl ad ds.length c2 i rfl rfl HLT.out) ?_))
        | ((with_reducible refine gate_dst (N := 156) rfl ?_); go_loud (refine Kd.event_run rfl (loadD_run (.tmp 155) rfl _ rfl d HDX.out.1 (dig_at (Kd.C_below HD.out HB.out) HDD.out).1) ?_))
        | (go_at_call 19; go_loud (refine (HTL.out _ HB.out).mono ?_; rintro e w5 ⟨rfl, l5⟩; have HB5 := Aside0.mk (below_step HB.out l5); clear l5)))
      go_roundg (ds.length - (i + 1))
      case measure => clear hwn hvn; have := HI.out; have := HLT.out; omega
      case rel => exact ⟨i + 1, ⟨by clear hwn hvn; have := HLT.out; omega, by clear hwn hvn; exact Nat.le_refl _⟩, by first | (with_reducible rfl) | (simp [hwn]; done) | go_num, HB5⟩
    · have c0 : decide ((i : Int) < (ds.length : Int)) = false := decide_eq_false (by omega)
      have c1' : decide (i < ds.length) = false := decide_eq_false hlt
      clear hlt
      go_wp2
      refine ⟨by trivial, ?_, HB.out⟩
      simp only [List.map_cons, List.map_nil, putAll, Act.put, List.setIfInBounds_toArray, List.set_cons_zero, List.set_cons_succ]
      try rfl
theorem neqS_run {o : Oper} {a : Act} {w : World} (ty ty' : TypeId) (x y : Operand) (ho : o.op = .binOp .neq ty x y ty') (hty : ty = 9) (s t : ByteArray) (hx : a.eval x = .string s) (hy : a.eval y = .string t) (b : Bool) (h : decide (s = t) = b) : (execOp a.eval o).run Tryd.prog w = .ok (.value (.bool (!b))) w := by
  have h2 : (s.toList == t.toList) = b := by rw [toList_beq, h]
  have h3 : binOp .neq 9 (.string s) (.string t) = pure (.bool !(s.toList == t.toList)) := by simp [binOp, Op.stringOp]
  subst hty
  unfold execOp
  simp only [ho, hx, hy, h3, h2]
  rfl
def cntf (sg : List Pr) (k : Int) (i : Nat) : Nat := ((sg.take i).filter fun p => decide (nm p.1 = nm k)).length
theorem cntf_step {sg : List Pr} {k : Int} {i : Nat} {p : Pr} (h : sg[i]? = some p) : cntf sg k (i + 1) = cntf sg k i + if nm p.1 = nm k then 1 else 0 := by
  unfold cntf
  rw [List.take_add_one, h, List.filter_append, List.length_append]
  by_cases e : nm p.1 = nm k
  · simp [e]
  · simp [e]
theorem cntf_le (sg : List Pr) (k : Int) (i : Nat) : cntf sg k i ≤ i := by
  unfold cntf
  exact Nat.le_trans (List.length_filter_le _ _) (by rw [List.length_take]; exact Nat.min_le_left _ _)
set_option maxHeartbeats 8000000 in
set_option maxRecDepth 100000 in
theorem book_count {W : World} {A1 A2 : Option Addr} {c1 c2 : Nat} {sg : List Pr} {ds : List (List Int)} {k : Int} {z0 z2 z3 z4 z5 z6 z7 z8 z9 z10 z13 z16 z17 z18 z19 z20 z21 z22 z23 z24 z25 z26 z27 z28 z29 z30 z31 z32 z33 z34 z35 z36 z37 z38 z39 z40 z41 z42 z43 z44 z45 z46 z47 z48 z49 z50 z51 z52 z53 z54 z55 z56 z57 z58 z59 z60 z61 z62 z63 z64 z65 z66 z67 z68 z69 z70 z71 z72 z73 z74 z75 z76 z77 z78 z79 z80 z81 z82 z83 z84 z85 z86 z87 z88 z89 z90 z91 z92 z93 z94 z95 z96 z97 z98 z99 z100 z101 z102 z103 z104 z105 z106 z107 z108 z109 z110 z111 z112 z113 z114 z115 z116 z117 z118 z119 z120 z121 z122 z123 z124 z125 z126 z127 z128 z129 z130 z131 z132 z133 z134 z135 z136 z137 z138 z139 z140 z141 z142 z143 z144 z145 z146 z147 z148 z149 z150 z151 z152 z153 z154 z155 z156 z157 z158 z159 z160 z161 z162 z163 z164 z165 z166 z167 : Value} (H1 : Aside0 (kP.C W A1 sg.length sg)) (HS : Aside0 (∀ p ∈ sg, IsD p.2)) (HD : Aside0 (kD.C W A2 ds.length ds)) (HDI : Aside0 (∀ d ∈ ds, IsD d)) (HEX : Aside0 (∀ (i : Nat) (p : Pr), sg[i]? = some p → i < 40 → nm p.1 = nm k → p.2 ∈ ds)) (HN : Aside0 (ds.length ≤ 100000)) (HNS : Aside0 (sg.length ≤ 1099511627776)) :
    left Tryd.prog 8 (codeIn (codeNext (codeFirst (codeNext (codeNext (codeNext bookIn)))))) [4, 14, 15, 96, 97, 98, 99, 100, 101, 102, 103, 104, 105, 106, 107, 108, 109, 110, 111, 112, 113, 114, 115, 116, 117, 118, 119, 120, 121, 122, 123, 124] (fun j W' => j 14 = .int .i64 (cntf sg k 40 : Int) ∧ Below W.heap.size W W') ⟨#[z0, .slice A1 sg.length c1, z2, z3, z4, z5, z6, z7, z8, z9, z10, .int .i64 (k : Int), .slice A2 ds.length c2, z13, .int .i64 0, .int .i64 0, z16, z17, z18, z19, z20, z21, z22, z23, z24, z25, z26, z27, z28, z29, z30, z31, z32, z33, z34, z35, z36, z37, z38, z39, z40, z41, z42, z43, z44, z45, z46, z47, z48, z49, z50, z51, z52, z53, z54, z55, z56, z57, z58, z59, z60, z61, z62, z63, z64, z65, z66, z67, z68, z69, z70, z71, z72, z73, z74, z75, z76, z77, z78, z79, z80, z81, z82, z83, z84, z85, z86, z87, z88, z89, z90, z91, z92, z93, z94, z95, z96, z97, z98, z99, z100, z101, z102, z103, z104, z105, z106, z107, z108, z109, z110, z111, z112, z113, z114, z115, z116, z117, z118, z119, z120, z121, z122, z123, z124, z125, z126, z127, z128, z129, z130, z131, z132, z133, z134, z135, z136, z137, z138, z139, z140, z141, z142, z143, z144, z145, z146, z147, z148, z149, z150, z151, z152, z153, z154, z155, z156, z157, z158, z159, z160, z161, z162, z163, z164, z165, z166, z167], []⟩ W := by
  dsimp only [bookIn, bookCode, codeOf, codeNext, codeFirst, codeIn, Tryd.f6, Option.getD]
  unfold left
  go_loopg [14, 15] sg.length (fun gg s14 s15 wr => ∃ (i : Nat), Aside0 (i ≤ sg.length ∧ i ≤ 40 ∧ sg.length - i ≤ gg) ∧ s14 = .int .i64 (cntf sg k i : Int) ∧ s15 = .int .i64 (i : Int) ∧ Aside0 (Below W.heap.size W wr))
  case atStart => exact ⟨0, ⟨Nat.zero_le _, by omega, Nat.le_refl _⟩, rfl, rfl, ⟨Below.refl _ _⟩⟩
  case round =>
    obtain ⟨i, HI, rfl, rfl, HB⟩ := hrel
    by_cases hlt : i < sg.length ∧ i < 40
    · have HLT := Aside0.mk hlt.1
      have HL4 := Aside0.mk hlt.2
      have c0 : decide ((i : Int) < (sg.length : Int)) = true := decide_eq_true (by omega)
      have c1' : decide (i < sg.length) = true := decide_eq_true hlt.1
      have c2' : decide ((i : Int) < 40) = true := decide_eq_true (by omega)
      have c3' : decide (i < 40) = true := decide_eq_true hlt.2
      obtain ⟨p, hp⟩ : ∃ p, sg[i]? = some p := ⟨_, List.getElem?_eq_getElem hlt.1⟩
      have HP := Aside0.mk hp
      have HPD := Aside0.mk (HS.out p (List.mem_of_getElem? hp))
      have HCS := Aside0.mk (cntf_step (k := k) hp)
      have hcl := cntf_le sg k i
      obtain ⟨ad, had, _⟩ := H1.out.2.2 (by omega)
      subst had
      have p0 : (0 : Int) ≤ (i : Int) := by omega
      have en : (i : Int) + 1 = ((i + 1 : Nat) : Int) := by omega
      have mn : i + 1 ≤ 9223372036854775807 := by omega
      obtain ⟨hwn, hvn⟩ := idx_at en mn
      have ec : (cntf sg k i : Int) + 1 = ((cntf sg k i + 1 : Nat) : Int) := by omega
      have mc : cntf sg k i + 1 ≤ 9223372036854775807 := by omega
      obtain ⟨hwc, hvc⟩ := idx_at ec mc
      clear ec mc hcl en mn hlt hp
      by_cases hN : nm p.1 = nm k
      · have HNN := Aside0.mk (show decide (nm p.1 = nm k) = true from decide_eq_true hN)
        have HIN := Aside0.mk (HEX.out i p HP.out HL4.out hN)
        rw [if_pos hN] at HCS
        clear hN
        go_wp2_with (first
          | ((with_reducible refine gate_dst (N := 108) rfl ?_); go_loud (refine Kd.event_run rfl (idxP_run (.tmp 106) (.tmp 107) rfl ad sg.length c1 i rfl rfl HLT.out) ?_))
          | ((with_reducible refine gate_dst (N := 109) rfl ?_); go_loud (refine Kd.event_run rfl (fld0_run (.tmp 108) rfl _ rfl) ?_))
          | ((with_reducible refine gate_dst (N := 110) rfl ?_); go_loud (refine Kd.event_run rfl (loadI_run (.tmp 109) rfl _ rfl p.1 (pair_at (Kd.C_below H1.out HB.out) HP.out).1) ?_))
          | (go_at_call 9; ((with_reducible refine (name_calls k _).mono ?_); rintro e w6 ⟨rfl, l6⟩; have HB6 := Aside0.mk (below_step HB5.out l6); clear l6))
          | (go_at_call 9; ((with_reducible refine (name_calls p.1 _).mono ?_); rintro e w5 ⟨rfl, l5⟩; have HB5 := Aside0.mk (below_step HB.out l5); clear l5))
          | ((with_reducible refine gate_dst (N := 114) rfl ?_); go_loud (refine Kd.event_run rfl (neqS_run _ _ (.tmp 111) (.tmp 113) rfl rfl _ _ rfl rfl true HNN.out) ?_))
          | ((with_reducible refine gate_dst (N := 118) rfl ?_); go_loud (refine Kd.event_run rfl (idxP_run (.tmp 116) (.tmp 117) rfl ad sg.length c1 i rfl rfl HLT.out) ?_))
          | ((with_reducible refine gate_dst (N := 119) rfl ?_); go_loud (refine Kd.event_run rfl (fld1_run (.tmp 118) rfl ad i rfl) ?_))
          | ((with_reducible refine gate_dst (N := 120) rfl ?_); go_loud (refine Kd.event_run rfl (loadD_run (.tmp 119) rfl _ rfl p.2 HPD.out.1 (pair_at (Kd.C_below H1.out HB6.out) HP.out).2.1) ?_))
          | (go_at_call 18; go_loud (refine (stands_calls _ A2 c2 ds (Kd.C_below HD.out HB6.out) HDI.out p.2 HPD.out (List.getElem?_of_mem HIN.out) (by have := HN.out; omega)).mono ?_; rintro e w7 ⟨rfl, l7⟩; have HB7 := Aside0.mk (below_step HB6.out l7); clear l7))
          )
        go_roundg (sg.length - (i + 1))
        case measure => clear hwn hvn hwc hvc; have := HI.out; have := HLT.out; omega
        case rel => exact ⟨i + 1, ⟨by clear hwn hvn hwc hvc; have := HLT.out; omega, by clear hwn hvn hwc hvc; have := HL4.out; omega, by clear hwn hvn hwc hvc; exact Nat.le_refl _⟩, by (rw [HCS.out]; first | (with_reducible rfl) | (simp [hwc]; done) | go_num), by first | (with_reducible rfl) | (simp [hwn]; done) | go_num, HB7⟩
      · have HNN := Aside0.mk (show decide (nm p.1 = nm k) = false from decide_eq_false hN)
        rw [if_neg hN, Nat.add_zero] at HCS
        clear hN
        go_wp2_with (first
          | ((with_reducible refine gate_dst (N := 108) rfl ?_); go_loud (refine Kd.event_run rfl (idxP_run (.tmp 106) (.tmp 107) rfl ad sg.length c1 i rfl rfl HLT.out) ?_))
          | ((with_reducible refine gate_dst (N := 109) rfl ?_); go_loud (refine Kd.event_run rfl (fld0_run (.tmp 108) rfl _ rfl) ?_))
          | ((with_reducible refine gate_dst (N := 110) rfl ?_); go_loud (refine Kd.event_run rfl (loadI_run (.tmp 109) rfl _ rfl p.1 (pair_at (Kd.C_below H1.out HB.out) HP.out).1) ?_))
          | (go_at_call 9; ((with_reducible refine (name_calls k _).mono ?_); rintro e w6 ⟨rfl, l6⟩; have HB6 := Aside0.mk (below_step HB5.out l6); clear l6))
          | (go_at_call 9; ((with_reducible refine (name_calls p.1 _).mono ?_); rintro e w5 ⟨rfl, l5⟩; have HB5 := Aside0.mk (below_step HB.out l5); clear l5))
          | ((with_reducible refine gate_dst (N := 114) rfl ?_); go_loud (refine Kd.event_run rfl (neqS_run _ _ (.tmp 111) (.tmp 113) rfl rfl _ _ rfl rfl false HNN.out) ?_))
          )
        go_roundg (sg.length - (i + 1))
        case measure => clear hwn hvn hwc hvc; have := HI.out; have := HLT.out; omega
        case rel => exact ⟨i + 1, ⟨by clear hwn hvn hwc hvc; have := HLT.out; omega, by clear hwn hvn hwc hvc; have := HL4.out; omega, by clear hwn hvn hwc hvc; exact Nat.le_refl _⟩, by (rw [HCS.out]; first | (with_reducible rfl) | (simp [hwc]; done) | go_num), by first | (with_reducible rfl) | (simp [hwn]; done) | go_num, HB6⟩
    · have HC40 := Aside0.mk (show cntf sg k i = cntf sg k 40 by
        unfold cntf
        rcases Nat.lt_or_ge i sg.length with h | h
        · have : i = 40 := by have := HI.out; omega
          rw [this]
        · rw [List.take_of_length_le h, List.take_of_length_le (by have := HI.out; omega)])
      have hor : ¬ i < sg.length ∨ (i < sg.length ∧ ¬ i < 40) := by omega
      clear hlt
      rcases hor with h | ⟨h, h'⟩
      · have c0 : decide ((i : Int) < (sg.length : Int)) = false := decide_eq_false (by omega)
        have c1' : decide (i < sg.length) = false := decide_eq_false h
        clear h
        go_wp2
        refine ⟨by trivial, ?_, (by rw [← HC40.out]; rfl), HB.out⟩
        simp only [List.map_cons, List.map_nil, putAll, Act.put, List.setIfInBounds_toArray, List.set_cons_zero, List.set_cons_succ]
        try rfl
      · have c0 : decide ((i : Int) < (sg.length : Int)) = true := decide_eq_true (by omega)
        have c1' : decide (i < sg.length) = true := decide_eq_true h
        have c2' : decide ((i : Int) < 40) = false := decide_eq_false (by omega)
        have c3' : decide (i < 40) = false := decide_eq_false h'
        clear h h'
        go_wp2
        refine ⟨by trivial, ?_, (by rw [← HC40.out]; rfl), HB.out⟩
        simp only [List.map_cons, List.map_nil, putAll, Act.put, List.setIfInBounds_toArray, List.set_cons_zero, List.set_cons_succ]
        try rfl
theorem subI_run {o : Oper} {a : Act} {w : World} (x : Operand) (ho : o.op = .binOp .sub 3 x (.const (.int .i64 1)) 3) (m t : Nat) (ht : m + 1 = t) (hx : a.eval x = .int .i64 (t : Int)) (hm : m ≤ 9223372036854775806) : (execOp a.eval o).run Tryd.prog w = .ok (.value (.int .i64 (m : Int))) w := by
  have e : IntKind.i64.wrap ((t : Int) - 1) = (m : Int) := by
    have : (t : Int) - 1 = (m : Int) := by omega
    rw [this]
    simp [IntKind.wrap, IntKind.bits, IntKind.signed]
    omega
  have h1 := Tryd.underlying3
  have hc : a.eval (.const (.int .i64 1)) = .int .i64 1 := rfl
  unfold execOp
  simp only [ho, hx, hc]
  simp [h1, go_sem, e]
theorem convD_run {o : Oper} {a : Act} {w : World} (x : Operand) (ho : o.op = .convert 22 9 x) (ad : Addr) (c : Nat) {d : List Int} (hx : a.eval x = .slice (some ad) 32 c) (hd : IsD d) (hc : ∀ j v, (nums IntKind.u8 d)[j]? = some v → w.cell? (ad.add j) = some v) :
    (execOp a.eval o).run Tryd.prog w = .ok (.value (.string ⟨(Lib.bytesOf d).toArray⟩)) w := by
  have hl : (Lib.bytesOf d).length = 32 := by rw [Lib.bytesOf_length, hd.1]
  have h := run_convert_bytes_back (P := Tryd.prog) w 22 9 5 ad c (Lib.bytesOf d) Tryd.underlying22 Tryd.underlying5 Tryd.underlying9 (fun j hj => by
    have hj' : j < d.length := by rw [Lib.bytesOf_length] at hj; exact hj
    have hr := hd.2 d[j] (List.getElem_mem hj')
    have e3 : (Lib.bytesOf d)[j] = UInt8.ofNat d[j].toNat := by simp [Lib.bytesOf]
    have e2 : ((Lib.bytesOf d)[j].toNat : Int) = d[j] := by
      rw [e3, UInt8.toNat_ofNat']
      omega
    rw [e2]
    exact hc j _ (num_at (List.getElem?_eq_getElem hj')))
  rw [hl] at h
  unfold execOp
  simp only [ho, hx, Sem.run_bind, h, Result.andThen_ok]
  rfl
theorem idxS_run {o : Oper} {a : Act} {w : World} (x y : Operand) (ho : o.op = .indexAddr 41 x y) (ad : Addr) (n c i : Nat) (hx : a.eval x = .slice (some ad) n c) (hy : a.eval y = .int .i64 (i : Int)) (hi : i < n) :
    (execOp a.eval o).run Tryd.prog w = .ok (.value (.pointer (some (ad.add (i * 1))))) w := idx_run _ _ 1 x y ho Tryd.underlying41 (by kernel_rfl) ad n c i hx hy hi
set_option maxHeartbeats 8000000 in
set_option maxRecDepth 100000 in
theorem book_rise {W : World} {A2 : Option Addr} {c2 : Nat} {ds : List (List Int)} {z0 z1 z2 z3 z4 z5 z6 z7 z8 z9 z10 z11 z14 z15 z16 z17 z18 z19 z20 z21 z22 z23 z24 z25 z26 z27 z28 z29 z30 z31 z32 z33 z34 z35 z36 z37 z38 z39 z40 z41 z42 z43 z44 z45 z46 z47 z48 z49 z50 z51 z52 z53 z54 z55 z56 z57 z58 z59 z60 z61 z62 z63 z64 z65 z66 z67 z68 z69 z70 z71 z72 z73 z74 z75 z76 z77 z78 z79 z80 z81 z82 z83 z84 z85 z86 z87 z88 z89 z90 z91 z92 z93 z94 z95 z96 z97 z98 z99 z100 z101 z102 z103 z104 z105 z106 z107 z108 z109 z110 z111 z112 z113 z114 z115 z116 z117 z118 z119 z120 z121 z122 z123 z124 z125 z126 z127 z128 z129 z130 z131 z132 z133 z134 z135 z136 z137 z138 z139 z140 z141 z142 z143 z144 z145 z146 z147 z148 z149 z150 z151 z152 z153 z154 z155 z156 z157 z158 z159 z160 z161 z162 z163 z164 z165 z166 z167 : Value} (HD : Aside0 (kD.C W A2 ds.length ds)) (HDI : Aside0 (∀ d ∈ ds, IsD d)) (HR : Aside0 (∀ (m : Nat) (d e : List Int), ds[m]? = some d → ds[m + 1]? = some e → Op.bytesLess (Lib.bytesOf d) (Lib.bytesOf e) = true)) (HN : Aside0 (ds.length ≤ 100000)) :
    left Tryd.prog 6 (codeIn (codeNext (codeFirst (codeNext bookIn)))) [4, 13, 78, 79, 80, 81, 82, 83, 84, 85, 86, 87, 88, 89, 90, 91, 92, 93, 94, 95] (fun j W' => Below W.heap.size W W') ⟨#[z0, z1, z2, z3, z4, z5, z6, z7, z8, z9, z10, z11, .slice A2 ds.length c2, .int .i64 1, z14, z15, z16, z17, z18, z19, z20, z21, z22, z23, z24, z25, z26, z27, z28, z29, z30, z31, z32, z33, z34, z35, z36, z37, z38, z39, z40, z41, z42, z43, z44, z45, z46, z47, z48, z49, z50, z51, z52, z53, z54, z55, z56, z57, z58, z59, z60, z61, z62, z63, z64, z65, z66, z67, z68, z69, z70, z71, z72, z73, z74, z75, z76, z77, z78, z79, z80, z81, z82, z83, z84, z85, z86, z87, z88, z89, z90, z91, z92, z93, z94, z95, z96, z97, z98, z99, z100, z101, z102, z103, z104, z105, z106, z107, z108, z109, z110, z111, z112, z113, z114, z115, z116, z117, z118, z119, z120, z121, z122, z123, z124, z125, z126, z127, z128, z129, z130, z131, z132, z133, z134, z135, z136, z137, z138, z139, z140, z141, z142, z143, z144, z145, z146, z147, z148, z149, z150, z151, z152, z153, z154, z155, z156, z157, z158, z159, z160, z161, z162, z163, z164, z165, z166, z167], []⟩ W := by
  dsimp only [bookIn, bookCode, codeOf, codeNext, codeFirst, codeIn, Tryd.f6, Option.getD]
  unfold left
  go_loopg [13] ds.length (fun gg s13 wr => ∃ (t : Nat), Aside0 (1 ≤ t ∧ t ≤ ds.length + 1 ∧ ds.length + 1 - t ≤ gg) ∧ s13 = .int .i64 (t : Int) ∧ Aside0 (Below W.heap.size W wr))
  case atStart => exact ⟨1, ⟨Nat.le_refl _, by omega, by omega⟩, rfl, ⟨Below.refl _ _⟩⟩
  case round =>
    obtain ⟨t, HI, rfl, HB⟩ := hrel
    by_cases hlt : t < ds.length
    · have HLT := Aside0.mk hlt
      have c0 : decide ((t : Int) < (ds.length : Int)) = true := decide_eq_true (by omega)
      have c1' : decide (t < ds.length) = true := decide_eq_true hlt
      obtain ⟨m, hm⟩ : ∃ m, m + 1 = t := ⟨t - 1, by have := HI.out; omega⟩
      have HT := Aside0.mk hm
      obtain ⟨d, hd⟩ : ∃ d, ds[m]? = some d := ⟨_, List.getElem?_eq_getElem (by omega)⟩
      obtain ⟨e, he⟩ : ∃ d, ds[t]? = some d := ⟨_, List.getElem?_eq_getElem hlt⟩
      have HM0 := Aside0.mk hd
      have HM1 := Aside0.mk he
      have HI0 := Aside0.mk (HDI.out d (List.mem_of_getElem? hd))
      have HI1 := Aside0.mk (HDI.out e (List.mem_of_getElem? he))
      have HLESS := Aside0.mk (show Op.bytesLess (⟨(Lib.bytesOf d).toArray⟩ : ByteArray).data.toList (⟨(Lib.bytesOf e).toArray⟩ : ByteArray).data.toList = true from HR.out m d e hd (by rw [hm]; exact he))
      obtain ⟨ad, had, _⟩ := HD.out.2.2 (by omega)
      subst had
      have p0 : (0 : Int) ≤ (t : Int) := by omega
      have en : (t : Int) + 1 = ((t + 1 : Nat) : Int) := by omega
      have mn : t + 1 ≤ 9223372036854775807 := by have := HN.out; omega
      obtain ⟨hwn, hvn⟩ := idx_at en mn
      clear en mn hlt hd he hm
      go_wp2_with (fail)
      refine wp_region_noPanic ?_
      refine start_ (n := 12) (S := fun w' => Below W.heap.size W w') (ds := []) #[false, false, false, false, false, false, false, false, false, false, false, false] (by kernel_rfl) rfl rfl (below_drew HB.out) (fun hHeld => ?_)
      refine pure_ (i := 0) (N := some 84) (v := ?v1) (a' := ?a1) #[true, false, false, false, false, false, false, false, false, false, false, false] rfl rfl (by kernel_rfl) (fun _ _ _ h => h) (Or.inl ⟨by rfl, ?hy1⟩) ?ha1 ?hh1
      case hy1 =>
        intro w'
        go_simp
        with_reducible rfl
      case ha1 =>
        simp only [Act.put, List.setIfInBounds_toArray, List.set_cons_zero, List.set_cons_succ]
        rfl
      refine pure_ (i := 1) (N := some 85) (v := ?v2) (a' := ?a2) #[true, true, false, false, false, false, false, false, false, false, false, false] rfl rfl (by kernel_rfl) (fun _ _ _ h => h) (Or.inl ⟨by rfl, ?hy2⟩) ?ha2 ?hh2
      case hy2 =>
        intro w'
        go_simp
        with_reducible rfl
      case ha2 =>
        simp only [Act.put, List.setIfInBounds_toArray, List.set_cons_zero, List.set_cons_succ]
        rfl
      refine pure_ (i := 2) (N := some 86) (v := (.int .i64 (m : Int))) (a' := ?a3) #[true, true, true, false, false, false, false, false, false, false, false, false] rfl rfl (by kernel_rfl) (fun _ _ _ h => h) (Or.inl ⟨by rfl, fun w' => subI_run (.tmp 85) rfl m t HT.out rfl (by have := HLT.out; have := HN.out; have := HT.out; omega)⟩) ?ha3 ?hh3
      case ha3 =>
        simp only [Act.put, List.setIfInBounds_toArray, List.set_cons_zero, List.set_cons_succ]
        rfl
      refine pure_ (i := 3) (N := some 87) (v := (.pointer (some (ad.add (m * 32))))) (a' := ?a4) #[true, true, true, true, false, false, false, false, false, false, false, false] rfl rfl (by kernel_rfl) (fun _ _ _ h => h) (Or.inl ⟨by rfl, fun w' => idxD_run (.tmp 84) (.tmp 86) rfl ad ds.length c2 m rfl rfl (by have := HLT.out; have := HT.out; omega)⟩) ?ha4 ?hh4
      case ha4 =>
        simp only [Act.put, List.setIfInBounds_toArray, List.set_cons_zero, List.set_cons_succ]
        rfl
      refine pure_ (i := 4) (N := some 88) (v := ?v5) (a' := ?a5) #[true, true, true, true, true, false, false, false, false, false, false, false] rfl rfl (by kernel_rfl) (fun _ _ _ h => h) (Or.inl ⟨by rfl, ?hy5⟩) ?ha5 ?hh5
      case hy5 =>
        intro w'
        go_simp
        with_reducible rfl
      case ha5 =>
        simp only [Act.put, List.setIfInBounds_toArray, List.set_cons_zero, List.set_cons_succ]
        rfl
      refine take_ (i := 5) (N := some 89) (v := (.string ⟨(Lib.bytesOf d).toArray⟩)) (a' := ?a6) #[true, true, true, true, true, true, false, false, false, false, false, false] rfl rfl (by kernel_rfl) (fun _ _ _ h => h) (Or.inl ⟨by rfl, fun w' s0 => convD_run (.tmp 88) rfl _ 32 rfl HI0.out (dig_at (Kd.C_below HD.out s0) HM0.out).1⟩) hHeld ?ha6 ?hh6
      case ha6 =>
        simp only [Act.put, List.setIfInBounds_toArray, List.set_cons_zero, List.set_cons_succ]
        rfl
      refine pure_ (i := 6) (N := some 90) (v := ?v7) (a' := ?a7) #[true, true, true, true, true, true, true, false, false, false, false, false] rfl rfl (by kernel_rfl) (fun _ _ _ h => h) (Or.inl ⟨by rfl, ?hy7⟩) ?ha7 ?hh7
      case hy7 =>
        intro w'
        go_simp
        with_reducible rfl
      case ha7 =>
        simp only [Act.put, List.setIfInBounds_toArray, List.set_cons_zero, List.set_cons_succ]
        rfl
      refine pure_ (i := 7) (N := some 91) (v := ?v8) (a' := ?a8) #[true, true, true, true, true, true, true, true, false, false, false, false] rfl rfl (by kernel_rfl) (fun _ _ _ h => h) (Or.inl ⟨by rfl, ?hy8⟩) ?ha8 ?hh8
      case hy8 =>
        intro w'
        go_simp
        with_reducible rfl
      case ha8 =>
        simp only [Act.put, List.setIfInBounds_toArray, List.set_cons_zero, List.set_cons_succ]
        rfl
      refine pure_ (i := 8) (N := some 92) (v := (.pointer (some (ad.add (t * 32))))) (a' := ?a9) #[true, true, true, true, true, true, true, true, true, false, false, false] rfl rfl (by kernel_rfl) (fun _ _ _ h => h) (Or.inl ⟨by rfl, fun w' => idxD_run (.tmp 90) (.tmp 91) rfl ad ds.length c2 t rfl rfl HLT.out⟩) ?ha9 ?hh9
      case ha9 =>
        simp only [Act.put, List.setIfInBounds_toArray, List.set_cons_zero, List.set_cons_succ]
        rfl
      refine pure_ (i := 9) (N := some 93) (v := ?v10) (a' := ?a10) #[true, true, true, true, true, true, true, true, true, true, false, false] rfl rfl (by kernel_rfl) (fun _ _ _ h => h) (Or.inl ⟨by rfl, ?hy10⟩) ?ha10 ?hh10
      case hy10 =>
        intro w'
        go_simp
        with_reducible rfl
      case ha10 =>
        simp only [Act.put, List.setIfInBounds_toArray, List.set_cons_zero, List.set_cons_succ]
        rfl
      refine take_ (i := 10) (N := some 94) (v := (.string ⟨(Lib.bytesOf e).toArray⟩)) (a' := ?a11) #[true, true, true, true, true, true, true, true, true, true, true, false] rfl rfl (by kernel_rfl) (fun _ _ _ h => h) (Or.inl ⟨by rfl, fun w' s0 => convD_run (.tmp 93) rfl _ 32 rfl HI1.out (dig_at (Kd.C_below HD.out s0) HM1.out).1⟩) hHeld ?ha11 ?hh11
      case ha11 =>
        simp only [Act.put, List.setIfInBounds_toArray, List.set_cons_zero, List.set_cons_succ]
        rfl
      refine pure_ (i := 11) (N := some 95) (v := (.bool false)) (a' := ?a12) #[true, true, true, true, true, true, true, true, true, true, true, true] rfl rfl (by kernel_rfl) (fun _ _ _ h => h) (Or.inl ⟨by rfl, fun w' => geqS_run (.tmp 89) (.tmp 94) _ rfl _ _ rfl rfl HLESS.out⟩) ?ha12 ?hh12
      case ha12 =>
        simp only [Act.put, List.setIfInBounds_toArray, List.set_cons_zero, List.set_cons_succ]
        rfl
      refine done_ (by kernel_rfl) ?_
      refine NoPanic.normal ?_
      have HB5 := Aside0.mk hHeld
      clear hHeld
      go_wp2
      go_roundg (ds.length + 1 - (t + 1))
      case measure => clear hwn hvn; have := HI.out; have := HLT.out; omega
      case rel => exact ⟨t + 1, ⟨by clear hwn hvn; omega, by clear hwn hvn; have := HLT.out; omega, by clear hwn hvn; exact Nat.le_refl _⟩, by first | (with_reducible rfl) | (simp [hwn]; done) | go_num, HB5⟩
    · have c0 : decide ((t : Int) < (ds.length : Int)) = false := decide_eq_false (by omega)
      have c1' : decide (t < ds.length) = false := decide_eq_false hlt
      clear hlt
      go_wp2
      refine ⟨by trivial, ?_, HB.out⟩
      simp only [List.map_cons, List.map_nil, putAll, Act.put, List.setIfInBounds_toArray, List.set_cons_zero, List.set_cons_succ]
      try rfl
theorem str_at {w : World} {ad : Addr} {n : Nat} {ss : List (List UInt8)} (h : kS.C w (some ad) n ss) {i : Nat} {s : List UInt8} (hi : ss[i]? = some s) : w.cell? (ad.add (i * 1)) = some (.string ⟨s.toArray⟩) := by
  obtain ⟨h1, h2, h3⟩ := h
  have hn : i < ss.length := (List.getElem?_eq_some_iff.1 hi).1
  obtain ⟨ad', had, hc⟩ := h3 (by omega)
  cases had
  obtain ⟨c, hl, hk, hcell⟩ := hc i s hi
  have hk' : c = [encStr s] := hk
  subst hk'
  exact hcell 0 _ rfl
set_option maxHeartbeats 8000000 in
set_option maxRecDepth 100000 in
theorem book_names {W : World} {A6 : Option Addr} {c6 : Nat} {ts : List (List UInt8)} {z0 z1 z2 z3 z4 z5 z8 z9 z10 z11 z12 z13 z14 z15 z16 z17 z18 z19 z20 z21 z22 z23 z24 z25 z26 z27 z28 z29 z30 z31 z32 z33 z34 z35 z36 z37 z38 z39 z40 z41 z42 z43 z44 z45 z46 z47 z48 z49 z50 z51 z52 z53 z54 z55 z56 z57 z58 z59 z60 z61 z62 z63 z64 z65 z66 z67 z68 z69 z70 z71 z72 z73 z74 z75 z76 z77 z78 z79 z80 z81 z82 z83 z84 z85 z86 z87 z88 z89 z90 z91 z92 z93 z94 z95 z96 z97 z98 z99 z100 z101 z102 z103 z104 z105 z106 z107 z108 z109 z110 z111 z112 z113 z114 z115 z116 z117 z118 z119 z120 z121 z122 z123 z124 z125 z126 z127 z128 z129 z130 z131 z132 z133 z134 z135 z136 z137 z138 z139 z140 z141 z142 z143 z144 z145 z146 z147 z148 z149 z150 z151 z152 z153 z154 z155 z156 z157 z158 z159 z160 z161 z162 z163 z164 z165 z166 z167 : Value} (HD : Aside0 (kS.C W A6 ts.length ts)) (HR : Aside0 (∀ (m : Nat) (d e : List UInt8), ts[m]? = some d → ts[m + 1]? = some e → Op.bytesLess d e = true)) (HN : Aside0 (ts.length ≤ 100000)) :
    left Tryd.prog 0 (codeIn (codeNext (codeFirst (codeNext (codeNext (codeNext (codeNext (codeNext bookCode)))))))) [4, 7, 26, 27, 28, 29, 30, 31, 32, 33, 34, 35, 36, 37, 38, 39, 40, 41] (fun j W' => Below W.heap.size W W') ⟨#[z0, z1, z2, z3, z4, z5, .slice A6 ts.length c6, .int .i64 1, z8, z9, z10, z11, z12, z13, z14, z15, z16, z17, z18, z19, z20, z21, z22, z23, z24, z25, z26, z27, z28, z29, z30, z31, z32, z33, z34, z35, z36, z37, z38, z39, z40, z41, z42, z43, z44, z45, z46, z47, z48, z49, z50, z51, z52, z53, z54, z55, z56, z57, z58, z59, z60, z61, z62, z63, z64, z65, z66, z67, z68, z69, z70, z71, z72, z73, z74, z75, z76, z77, z78, z79, z80, z81, z82, z83, z84, z85, z86, z87, z88, z89, z90, z91, z92, z93, z94, z95, z96, z97, z98, z99, z100, z101, z102, z103, z104, z105, z106, z107, z108, z109, z110, z111, z112, z113, z114, z115, z116, z117, z118, z119, z120, z121, z122, z123, z124, z125, z126, z127, z128, z129, z130, z131, z132, z133, z134, z135, z136, z137, z138, z139, z140, z141, z142, z143, z144, z145, z146, z147, z148, z149, z150, z151, z152, z153, z154, z155, z156, z157, z158, z159, z160, z161, z162, z163, z164, z165, z166, z167], []⟩ W := by
  dsimp only [bookIn, bookCode, codeOf, codeNext, codeFirst, codeIn, Tryd.f6, Option.getD]
  unfold left
  go_loopg [7] ts.length (fun gg s7 wr => ∃ (t : Nat), Aside0 (1 ≤ t ∧ t ≤ ts.length + 1 ∧ ts.length + 1 - t ≤ gg) ∧ s7 = .int .i64 (t : Int) ∧ Aside0 (Below W.heap.size W wr))
  case atStart => exact ⟨1, ⟨Nat.le_refl _, by omega, by omega⟩, rfl, ⟨Below.refl _ _⟩⟩
  case round =>
    obtain ⟨t, HI, rfl, HB⟩ := hrel
    by_cases hlt : t < ts.length
    · have HLT := Aside0.mk hlt
      have c0 : decide ((t : Int) < (ts.length : Int)) = true := decide_eq_true (by omega)
      have c1' : decide (t < ts.length) = true := decide_eq_true hlt
      obtain ⟨m, hm⟩ : ∃ m, m + 1 = t := ⟨t - 1, by have := HI.out; omega⟩
      have HT := Aside0.mk hm
      obtain ⟨d, hd⟩ : ∃ d, ts[m]? = some d := ⟨_, List.getElem?_eq_getElem (by omega)⟩
      obtain ⟨e, he⟩ : ∃ d, ts[t]? = some d := ⟨_, List.getElem?_eq_getElem hlt⟩
      have HM0 := Aside0.mk hd
      have HM1 := Aside0.mk he
      have HLESS := Aside0.mk (show Op.bytesLess (⟨d.toArray⟩ : ByteArray).data.toList (⟨e.toArray⟩ : ByteArray).data.toList = true from HR.out m d e hd (by rw [hm]; exact he))
      obtain ⟨ad, had, _⟩ := HD.out.2.2 (by omega)
      subst had
      have p0 : (0 : Int) ≤ (t : Int) := by omega
      have en : (t : Int) + 1 = ((t + 1 : Nat) : Int) := by omega
      have mn : t + 1 ≤ 9223372036854775807 := by have := HN.out; omega
      obtain ⟨hwn, hvn⟩ := idx_at en mn
      clear en mn hlt hd he hm
      go_wp2_with (fail)
      refine wp_region_noPanic ?_
      refine start_ (n := 10) (S := fun w' => Below W.heap.size W w') (ds := []) #[false, false, false, false, false, false, false, false, false, false] (by kernel_rfl) rfl rfl (below_drew HB.out) (fun hHeld => ?_)
      refine pure_ (i := 0) (N := some 32) (v := ?v13) (a' := ?a13) #[true, false, false, false, false, false, false, false, false, false] rfl rfl (by kernel_rfl) (fun _ _ _ h => h) (Or.inl ⟨by rfl, ?hy13⟩) ?ha13 ?hh13
      case hy13 =>
        intro w'
        go_simp
        with_reducible rfl
      case ha13 =>
        simp only [Act.put, List.setIfInBounds_toArray, List.set_cons_zero, List.set_cons_succ]
        rfl
      refine pure_ (i := 1) (N := some 33) (v := ?v14) (a' := ?a14) #[true, true, false, false, false, false, false, false, false, false] rfl rfl (by kernel_rfl) (fun _ _ _ h => h) (Or.inl ⟨by rfl, ?hy14⟩) ?ha14 ?hh14
      case hy14 =>
        intro w'
        go_simp
        with_reducible rfl
      case ha14 =>
        simp only [Act.put, List.setIfInBounds_toArray, List.set_cons_zero, List.set_cons_succ]
        rfl
      refine pure_ (i := 2) (N := some 34) (v := (.int .i64 (m : Int))) (a' := ?a15) #[true, true, true, false, false, false, false, false, false, false] rfl rfl (by kernel_rfl) (fun _ _ _ h => h) (Or.inl ⟨by rfl, fun w' => subI_run (.tmp 33) rfl m t HT.out rfl (by have := HLT.out; have := HN.out; have := HT.out; omega)⟩) ?ha15 ?hh15
      case ha15 =>
        simp only [Act.put, List.setIfInBounds_toArray, List.set_cons_zero, List.set_cons_succ]
        rfl
      refine pure_ (i := 3) (N := some 35) (v := (.pointer (some (ad.add (m * 1))))) (a' := ?a16) #[true, true, true, true, false, false, false, false, false, false] rfl rfl (by kernel_rfl) (fun _ _ _ h => h) (Or.inl ⟨by rfl, fun w' => idxS_run (.tmp 32) (.tmp 34) rfl ad ts.length c6 m rfl rfl (by have := HLT.out; have := HT.out; omega)⟩) ?ha16 ?hh16
      case ha16 =>
        simp only [Act.put, List.setIfInBounds_toArray, List.set_cons_zero, List.set_cons_succ]
        rfl
      refine take_ (i := 4) (N := some 36) (v := (.string ⟨d.toArray⟩)) (a' := ?a17) #[true, true, true, true, true, false, false, false, false, false] rfl rfl (by kernel_rfl) (fun _ _ _ h => h) (Or.inl ⟨by rfl, fun w' s0 => loadS_run (.tmp 35) rfl _ rfl _ (str_at (Kd.C_below HD.out s0) HM0.out)⟩) hHeld ?ha17 ?hh17
      case ha17 =>
        simp only [Act.put, List.setIfInBounds_toArray, List.set_cons_zero, List.set_cons_succ]
        rfl
      refine pure_ (i := 5) (N := some 37) (v := ?v18) (a' := ?a18) #[true, true, true, true, true, true, false, false, false, false] rfl rfl (by kernel_rfl) (fun _ _ _ h => h) (Or.inl ⟨by rfl, ?hy18⟩) ?ha18 ?hh18
      case hy18 =>
        intro w'
        go_simp
        with_reducible rfl
      case ha18 =>
        simp only [Act.put, List.setIfInBounds_toArray, List.set_cons_zero, List.set_cons_succ]
        rfl
      refine pure_ (i := 6) (N := some 38) (v := ?v19) (a' := ?a19) #[true, true, true, true, true, true, true, false, false, false] rfl rfl (by kernel_rfl) (fun _ _ _ h => h) (Or.inl ⟨by rfl, ?hy19⟩) ?ha19 ?hh19
      case hy19 =>
        intro w'
        go_simp
        with_reducible rfl
      case ha19 =>
        simp only [Act.put, List.setIfInBounds_toArray, List.set_cons_zero, List.set_cons_succ]
        rfl
      refine pure_ (i := 7) (N := some 39) (v := (.pointer (some (ad.add (t * 1))))) (a' := ?a20) #[true, true, true, true, true, true, true, true, false, false] rfl rfl (by kernel_rfl) (fun _ _ _ h => h) (Or.inl ⟨by rfl, fun w' => idxS_run (.tmp 37) (.tmp 38) rfl ad ts.length c6 t rfl rfl HLT.out⟩) ?ha20 ?hh20
      case ha20 =>
        simp only [Act.put, List.setIfInBounds_toArray, List.set_cons_zero, List.set_cons_succ]
        rfl
      refine take_ (i := 8) (N := some 40) (v := (.string ⟨e.toArray⟩)) (a' := ?a21) #[true, true, true, true, true, true, true, true, true, false] rfl rfl (by kernel_rfl) (fun _ _ _ h => h) (Or.inl ⟨by rfl, fun w' s0 => loadS_run (.tmp 39) rfl _ rfl _ (str_at (Kd.C_below HD.out s0) HM1.out)⟩) hHeld ?ha21 ?hh21
      case ha21 =>
        simp only [Act.put, List.setIfInBounds_toArray, List.set_cons_zero, List.set_cons_succ]
        rfl
      refine pure_ (i := 9) (N := some 41) (v := (.bool false)) (a' := ?a22) #[true, true, true, true, true, true, true, true, true, true] rfl rfl (by kernel_rfl) (fun _ _ _ h => h) (Or.inl ⟨by rfl, fun w' => geqS_run (.tmp 36) (.tmp 40) _ rfl _ _ rfl rfl HLESS.out⟩) ?ha22 ?hh22
      case ha22 =>
        simp only [Act.put, List.setIfInBounds_toArray, List.set_cons_zero, List.set_cons_succ]
        rfl
      refine done_ (by kernel_rfl) ?_
      refine NoPanic.normal ?_
      have HB5 := Aside0.mk hHeld
      clear hHeld
      go_wp2
      go_roundg (ts.length + 1 - (t + 1))
      case measure => clear hwn hvn; have := HI.out; have := HLT.out; omega
      case rel => exact ⟨t + 1, ⟨by clear hwn hvn; omega, by clear hwn hvn; have := HLT.out; omega, by clear hwn hvn; exact Nat.le_refl _⟩, by first | (with_reducible rfl) | (simp [hwn]; done) | go_num, HB5⟩
    · have c0 : decide ((t : Int) < (ts.length : Int)) = false := decide_eq_false (by omega)
      have c1' : decide (t < ts.length) = false := decide_eq_false hlt
      clear hlt
      go_wp2
      refine ⟨by trivial, ?_, HB.out⟩
      simp only [List.map_cons, List.map_nil, putAll, Act.put, List.setIfInBounds_toArray, List.set_cons_zero, List.set_cons_succ]
      try rfl
end Go.Proofs.YtoigoiefnapokaaDoor.T
namespace Go.Proofs.YtoigoiefnapokaaDoor.T
open Go.RowKit Go.Maps Go.MuLone Go.Proofs.YtoigoiefnapokaaDoorW.PrintWords Go.Proofs.YtoigoiefnapokaaDoorW.PrintLast
theorem Keys.list2 {x : RV} {w W : World} {sec : List Int} {ps : List Pr} (h : Keys x w W sec ps) {b : Nat} (hb : x.b = b) (hO : OnlyP x.Ds) (hl : ps.length ≤ 100000) (n : Int) :
    Calls Tryd.prog 17 #[.pointer (some ⟨b, 0, none⟩), .string (nm n)] W fun e w' => ∃ (A : Option Addr) (c : Nat) (l : List (List Int)), e = .returned (.slice A l.length c) ∧ l.Nodup ∧ (∀ d ∈ l, IsD d) ∧ (∀ d, IsD d → (d ∈ l ↔ ∃ p ∈ ps, nm p.1 = nm n ∧ p.2 = d)) ∧
      (∀ (m : Nat) (d e : List Int), l[m]? = some d → l[m + 1]? = some e → Op.bytesLess (Lib.bytesOf d) (Lib.bytesOf e) = true) ∧ kD.C w' A l.length l ∧ Below W.heap.size W w' := by
  subst hb
  refine (h.list hO hl n).mono ?_
  rintro e w' ⟨A, c, ds, rfl, hnd, hm, hs, hC, hbl⟩
  refine ⟨A, c, ds.map (·.1), by rw [List.length_map], List.pairwise_map.2 (hnd.imp (fun {a b} hne e => hne (Subtype.ext e))), ?_, ?_, ?_, by rw [List.length_map]; exact hC, hbl⟩
  · intro d hd
    obtain ⟨q, _, rfl⟩ := List.mem_map.1 hd
    exact q.2
  · intro d hd
    rw [← hm ⟨d, hd⟩, List.mem_map]
    constructor
    · rintro ⟨q, hq, rfl⟩
      exact hq
    · exact fun hq => ⟨⟨d, hd⟩, hq, rfl⟩
  · intro m d e' h1 h2
    rw [List.getElem?_map] at h1 h2
    obtain ⟨q1, g1, rfl⟩ := Option.map_eq_some_iff.1 h1
    obtain ⟨q2, g2, rfl⟩ := Option.map_eq_some_iff.1 h2
    obtain ⟨i1, e1⟩ := List.getElem?_eq_some_iff.1 g1
    obtain ⟨i2, e2⟩ := List.getElem?_eq_some_iff.1 g2
    have := List.pairwise_iff_getElem.1 hs m (m + 1) i1 i2 (by omega)
    rw [e1, e2] at this
    exact cb_lt this
theorem len_sub {α : Type} [DecidableEq α] : ∀ {l m : List α}, l.Nodup → (∀ x ∈ l, x ∈ m) → l.length ≤ m.length
  | [], _, _, _ => Nat.zero_le _
  | a :: r, m, h, hs => by
    obtain ⟨h1, h2⟩ := List.pairwise_cons.1 h
    have := len_sub (l := r) (m := m.erase a) h2 (fun x hx => (List.mem_erase_of_ne (fun e => h1 x hx e.symm)).2 (hs x (List.mem_cons_of_mem _ hx)))
    have h3 := List.length_erase_of_mem (hs a (List.mem_cons_self ..))
    have h4 : 0 < m.length := List.length_pos_of_mem (hs a (List.mem_cons_self ..))
    simp only [List.length_cons]
    omega
/-- No more digests than pairs that were signed; one at least where one was signed. -/
theorem count_ok {sg : List Pr} {k : Int} {l : List (List Int)} (hi : ∀ p ∈ sg, IsD p.2) (hnd : l.Nodup) (hid : ∀ d ∈ l, IsD d) (hm : ∀ d, IsD d → (d ∈ l ↔ ∃ p ∈ sg.take 40, nm p.1 = nm k ∧ p.2 = d)) :
    l.length ≤ cntf sg k 40 ∧ (0 < cntf sg k 40 → 0 < l.length) := by
  unfold cntf
  constructor
  · have := len_sub (m := ((sg.take 40).filter fun p => decide (nm p.1 = nm k)).map (·.2)) hnd (fun d hd => by
      obtain ⟨p, hp, h1, h2⟩ := (hm d (hid d hd)).1 hd
      exact List.mem_map.2 ⟨p, List.mem_filter.2 ⟨hp, decide_eq_true h1⟩, h2⟩)
    rwa [List.length_map] at this
  · intro h
    obtain ⟨p, hp⟩ := List.exists_mem_of_length_pos h
    obtain ⟨h1, h2⟩ := List.mem_filter.1 hp
    exact List.length_pos_of_mem ((hm p.2 (hi p (List.mem_of_mem_take h1))).2 ⟨p, h1, of_decide_eq_true h2, rfl⟩)
end Go.Proofs.YtoigoiefnapokaaDoor.T
namespace Go.Proofs.YtoigoiefnapokaaDoor.T
open Go.RowKit Go.Maps Go.MuLone Go.Proofs.YtoigoiefnapokaaDoorW.PrintWords Go.Proofs.YtoigoiefnapokaaDoorW.PrintLast
theorem Keys.hasN {x : RV} {w W : World} {sec : List Int} {ps : List Pr} (h : Keys x w W sec ps) {b : Nat} (hb : x.b = b) (n : Int) :
    Calls Tryd.prog 15 #[.pointer (some ⟨b, 0, none⟩), .string (nm n)] W fun e w' => e = .returned (.bool true) ∧ Below W.heap.size W w' := by
  subst hb
  refine (has_calls W x _ h.at_ _ h.keys (gf_is sec 8) (nm n) (nm_okS n)).mono ?_
  rintro e w' ⟨rfl, hb⟩
  rw [gf_all]
  exact ⟨rfl, hb⟩
set_option maxHeartbeats 16000000 in
set_option maxRecDepth 100000 in
theorem book_each {y : RV} {w W : World} {b : Nat} {sec : List Int} {A1 : Option Addr} {c1 : Nat} {sg : List Pr} {z0 z2 z3 z4 z6 z7 z8 z9 z10 z12 z13 z14 z15 z16 z17 z18 z19 z20 z21 z22 z23 z24 z25 z26 z27 z28 z29 z30 z31 z32 z33 z34 z35 z36 z37 z38 z39 z40 z41 z42 z43 z44 z45 z46 z47 z48 z49 z50 z51 z52 z53 z54 z55 z56 z57 z58 z59 z60 z61 z62 z63 z64 z65 z66 z67 z68 z69 z70 z71 z72 z73 z74 z75 z76 z77 z78 z79 z80 z81 z82 z83 z84 z85 z86 z87 z88 z89 z90 z91 z92 z93 z94 z95 z96 z97 z98 z99 z100 z101 z102 z103 z104 z105 z106 z107 z108 z109 z110 z111 z112 z113 z114 z115 z116 z117 z118 z119 z120 z121 z122 z123 z124 z125 z126 z127 z128 z129 z130 z131 z132 z133 z134 z135 z136 z137 z138 z139 z140 z141 z142 z143 z144 z145 z146 z147 z148 z149 z150 z151 z152 z153 z154 z155 z156 z157 z158 z159 z160 z161 z162 z163 z164 z165 z166 z167 : Value} (KW : Aside0 (Keys y w W sec (sg.take 40))) (HE : Aside0 (y.b = b)) (OX : Aside0 (OnlyP y.Ds)) (H1 : Aside0 (kP.C W A1 sg.length sg)) (HS : Aside0 (∀ p ∈ sg, IsD p.2)) (HNS : Aside0 (sg.length ≤ 1099511627776)) :
    left Tryd.prog 4 (codeIn (codeNext (codeFirst (codeNext (codeNext (codeNext (codeNext (codeNext (codeNext (codeNext bookCode)))))))))) [4, 11, 12, 13, 14, 15, 16, 70, 71, 72, 73, 74, 75, 76, 77, 78, 79, 80, 81, 82, 83, 84, 85, 86, 87, 88, 89, 90, 91, 92, 93, 94, 95, 96, 97, 98, 99, 100, 101, 102, 103, 104, 105, 106, 107, 108, 109, 110, 111, 112, 113, 114, 115, 116, 117, 118, 119, 120, 121, 122, 123, 124, 125, 126, 127, 128, 129, 130, 131, 132, 133, 134, 135, 136, 137, 138, 139, 140, 141, 142, 143, 144, 145, 146, 147, 148, 149, 150, 151, 152, 153, 154, 155, 156, 157, 158] (fun j W' => Below W.heap.size W W') ⟨#[z0, .slice A1 sg.length c1, z2, z3, z4, .pointer (some ⟨b, 0, none⟩), z6, z7, z8, z9, z10, .int .i64 0, z12, z13, z14, z15, z16, z17, z18, z19, z20, z21, z22, z23, z24, z25, z26, z27, z28, z29, z30, z31, z32, z33, z34, z35, z36, z37, z38, z39, z40, z41, z42, z43, z44, z45, z46, z47, z48, z49, z50, z51, z52, z53, z54, z55, z56, z57, z58, z59, z60, z61, z62, z63, z64, z65, z66, z67, z68, z69, z70, z71, z72, z73, z74, z75, z76, z77, z78, z79, z80, z81, z82, z83, z84, z85, z86, z87, z88, z89, z90, z91, z92, z93, z94, z95, z96, z97, z98, z99, z100, z101, z102, z103, z104, z105, z106, z107, z108, z109, z110, z111, z112, z113, z114, z115, z116, z117, z118, z119, z120, z121, z122, z123, z124, z125, z126, z127, z128, z129, z130, z131, z132, z133, z134, z135, z136, z137, z138, z139, z140, z141, z142, z143, z144, z145, z146, z147, z148, z149, z150, z151, z152, z153, z154, z155, z156, z157, z158, z159, z160, z161, z162, z163, z164, z165, z166, z167], []⟩ W := by
  dsimp only [bookIn, bookCode, codeOf, codeNext, codeFirst, codeIn, Tryd.f6, Option.getD]
  unfold left
  go_loopg [11] 8 (fun gg s11 wr => ∃ (k : Nat), Aside0 (k ≤ 8 ∧ 8 - k ≤ gg) ∧ s11 = .int .i64 (k : Int) ∧ Aside0 (Below W.heap.size W wr))
  case atStart => exact ⟨0, ⟨by omega, by omega⟩, rfl, ⟨Below.refl _ _⟩⟩
  case round =>
    obtain ⟨k, HI, rfl, HB⟩ := hrel
    by_cases hlt : k < 8
    · have HLT := Aside0.mk hlt
      have c0 : decide ((k : Int) < 8) = true := decide_eq_true (by omega)
      have c1' : decide (k < 8) = true := decide_eq_true hlt
      have p0 : (0 : Int) ≤ (k : Int) := by omega
      have en : (k : Int) + 1 = ((k + 1 : Nat) : Int) := by omega
      have mn : k + 1 ≤ 9223372036854775807 := by omega
      obtain ⟨hwn, hvn⟩ := idx_at en mn
      clear en mn hlt
      go_wp2_with (first
        | (go_at_call 9; ((with_reducible refine (name_calls (k : Int) _).mono ?_); rintro e w5 ⟨rfl, l5⟩; have HB5 := Aside0.mk (below_step HB.out l5); clear l5))
        | (go_at_call 17; go_loud (refine ((KW.out.low HB5.out).list2 HE.out OX.out (by rw [List.length_take]; omega) (k : Int)).mono ?_; rintro e w6 ⟨A2, c2, l, rfl, hnd, hid, hml, hri, hC, l6⟩; have HB6 := Aside0.mk (below_step HB5.out l6); have HND := Aside0.mk hnd; have HID := Aside0.mk hid; have HML := Aside0.mk hml; have HRI := Aside0.mk hri; have HC := Aside0.mk hC; clear hnd hid hml hri hC l6)))
      have HLL := Aside0.mk (show l.length ≤ 100000 by
        have := (count_ok HS.out HND.out HID.out HML.out).1
        have := cntf_le sg (k : Int) 40
        omega)
      refine wp_left [4, 13, 78, 79, 80, 81, 82, 83, 84, 85, 86, 87, 88, 89, 90, 91, 92, 93, 94, 95] (fun j W' => Below w6.heap.size w6 W') ?cont1 (book_rise HC HID HRI HLL)
      case cont1 =>
        rintro j1 w7 hb7
        have HB7 := Aside0.mk hb7
        simp only [List.map_cons, List.map_nil, putAll, Act.put, List.setIfInBounds_toArray, List.set_cons_zero, List.set_cons_succ]
        clear hb7
        go_wp2_with (fail)
        refine wp_left [4, 14, 15, 96, 97, 98, 99, 100, 101, 102, 103, 104, 105, 106, 107, 108, 109, 110, 111, 112, 113, 114, 115, 116, 117, 118, 119, 120, 121, 122, 123, 124] (fun j W' => j 14 = .int .i64 (cntf sg (k : Int) 40 : Int) ∧ Below w7.heap.size w7 W') ?cont2 (book_count ⟨Kd.C_below H1.out (below_step HB6.out HB7.out)⟩ HS ⟨Kd.C_below HC.out HB7.out⟩ HID ⟨fun i p hp hi hn => (HML.out p.2 (HS.out p (List.mem_of_getElem? hp))).2 ⟨p, List.mem_of_getElem? (i := i) (by rw [List.getElem?_take_of_lt hi]; exact hp), hn, rfl⟩⟩ HLL HNS)
        case cont2 =>
          rintro j2 w8 ⟨h14, hb8⟩
          have HB8 := Aside0.mk hb8
          have HW8 := Aside0.mk (below_step (below_step HB6.out HB7.out) hb8)
          simp only [List.map_cons, List.map_nil, putAll, Act.put, List.setIfInBounds_toArray, List.set_cons_zero, List.set_cons_succ]
          rw [h14]
          obtain ⟨ho1, ho2⟩ := count_ok HS.out HND.out HID.out HML.out
          obtain ⟨cn, hcn⟩ : ∃ n, cntf sg (k : Int) 40 = n := ⟨_, rfl⟩
          rw [hcn] at ho1 ho2 ⊢
          clear h14 hb8 hcn
          have g1 : decide ((l.length : Int) > (cn : Int)) = false := decide_eq_false (by omega)
          have g2 : decide ((cn : Int) < (l.length : Int)) = false := decide_eq_false (by omega)
          have g3 : decide (cn < l.length) = false := decide_eq_false (by omega)
          have HOK := Aside0.mk (And.intro ho1 ho2)
          have fin : ∀ (ww : World), Below w8.heap.size w8 ww → True := fun _ _ => trivial
          clear ho1 ho2 fin
          rcases Nat.eq_zero_or_pos cn with hz | hz
          · subst hz
            go_wp2_with (first
              | (go_at_call 9; ((with_reducible refine (name_calls (k : Int) _).mono ?_); rintro e w9 ⟨rfl, l9⟩; have HB9 := Aside0.mk (below_step HW8.out l9); have L9 := Aside0.mk (below_step HB8.out l9); clear l9))
              | (go_at_call 15; go_loud (refine ((KW.out.low HB9.out).hasN HE.out (k : Int)).mono ?_; rintro e wb ⟨rfl, lb⟩; have HBB := Aside0.mk (below_step HB9.out lb); have LB := Aside0.mk lb; clear lb)))
            refine wp_left [4, 16, 145, 146, 147, 148, 149, 150, 151, 152, 153, 154, 155, 156, 157, 158] (fun j W' => Below wb.heap.size wb W') ?cont3 (book_told ⟨Kd.C_below H1.out HBB.out⟩ HS ⟨Kd.C_below HC.out (below_step HB7.out (below_step L9.out LB.out))⟩ HID ⟨fun d hd => by
              obtain ⟨p, hp, h1, h2⟩ := (HML.out d (HID.out d hd)).1 hd
              obtain ⟨i, hi⟩ := List.getElem?_of_mem hp
              have hi4 : i < 40 := by have := (List.getElem?_eq_some_iff.1 hi).1; rw [List.length_take] at this; omega
              exact ⟨i, p, by rw [← hi, List.getElem?_take_of_lt hi4], hi4, h1, h2⟩⟩ HLL HNS)
            case cont3 =>
              rintro j3 wc hbc
              have HBC := Aside0.mk (below_step HBB.out hbc)
              simp only [List.map_cons, List.map_nil, putAll, Act.put, List.setIfInBounds_toArray, List.set_cons_zero, List.set_cons_succ]
              clear hbc
              go_wp2
              go_roundg (8 - (k + 1))
              case measure => clear hwn hvn; have := HI.out; have := HLT.out; omega
              case rel => exact ⟨k + 1, ⟨by clear hwn hvn; have := HLT.out; omega, by clear hwn hvn; exact Nat.le_refl _⟩, by first | (with_reducible rfl) | (simp [hwn]; done) | go_num, HBC⟩
          · have g4 : decide ((cn : Int) > 0) = true := decide_eq_true (by omega)
            have g5 : decide ((0 : Int) < (cn : Int)) = true := decide_eq_true (by omega)
            have g6 : decide (0 < cn) = true := decide_eq_true hz
            have hlz : l.length ≠ 0 := by have := HOK.out.2 hz; omega
            have g7 : decide ((l.length : Int) = 0) = false := decide_eq_false (by omega)
            have g8 : ((l.length : Int) == 0) = false := beq_eq_false_iff_ne.2 (by omega)
            have g9 : decide (l.length = 0) = false := decide_eq_false hlz
            clear hlz
            go_wp2_with (first
              | (go_at_call 9; ((with_reducible refine (name_calls (k : Int) _).mono ?_); rintro e w9 ⟨rfl, l9⟩; have HB9 := Aside0.mk (below_step HW8.out l9); have L9 := Aside0.mk (below_step HB8.out l9); clear l9))
              | (go_at_call 15; go_loud (refine ((KW.out.low HB9.out).hasN HE.out (k : Int)).mono ?_; rintro e wb ⟨rfl, lb⟩; have HBB := Aside0.mk (below_step HB9.out lb); have LB := Aside0.mk lb; clear lb)))
            refine wp_left [4, 16, 145, 146, 147, 148, 149, 150, 151, 152, 153, 154, 155, 156, 157, 158] (fun j W' => Below wb.heap.size wb W') ?cont3 (book_told ⟨Kd.C_below H1.out HBB.out⟩ HS ⟨Kd.C_below HC.out (below_step HB7.out (below_step L9.out LB.out))⟩ HID ⟨fun d hd => by
              obtain ⟨p, hp, h1, h2⟩ := (HML.out d (HID.out d hd)).1 hd
              obtain ⟨i, hi⟩ := List.getElem?_of_mem hp
              have hi4 : i < 40 := by have := (List.getElem?_eq_some_iff.1 hi).1; rw [List.length_take] at this; omega
              exact ⟨i, p, by rw [← hi, List.getElem?_take_of_lt hi4], hi4, h1, h2⟩⟩ HLL HNS)
            case cont3 =>
              rintro j3 wc hbc
              have HBC := Aside0.mk (below_step HBB.out hbc)
              simp only [List.map_cons, List.map_nil, putAll, Act.put, List.setIfInBounds_toArray, List.set_cons_zero, List.set_cons_succ]
              clear hbc
              go_wp2
              go_roundg (8 - (k + 1))
              case measure => clear hwn hvn; have := HI.out; have := HLT.out; omega
              case rel => exact ⟨k + 1, ⟨by clear hwn hvn; have := HLT.out; omega, by clear hwn hvn; exact Nat.le_refl _⟩, by first | (with_reducible rfl) | (simp [hwn]; done) | go_num, HBC⟩
    · have c0 : decide ((k : Int) < 8) = false := decide_eq_false (by omega)
      have c1' : decide (k < 8) = false := decide_eq_false hlt
      clear hlt
      go_wp2
      refine ⟨by trivial, ?_, HB.out⟩
      simp only [List.map_cons, List.map_nil, putAll, Act.put, List.setIfInBounds_toArray, List.set_cons_zero, List.set_cons_succ]
      try rfl
end Go.Proofs.YtoigoiefnapokaaDoor.T
namespace Go.Proofs.YtoigoiefnapokaaDoor.T
open Go.RowKit Go.Maps Go.MuLone Go.Proofs.YtoigoiefnapokaaDoorW.PrintWords Go.Proofs.YtoigoiefnapokaaDoorW.PrintLast
set_option maxHeartbeats 16000000 in
set_option maxRecDepth 100000 in
theorem book_signs {x : RV} {w W : World} {b0 nn c1 : Nat} {sec : List Int} {A1 : Option Addr} {sg : List Pr} {z0 z2 z3 z4 z6 z7 z9 z10 z11 z12 z13 z14 z15 z16 z17 z18 z19 z20 z21 z22 z23 z24 z25 z26 z27 z28 z29 z30 z31 z32 z33 z34 z35 z36 z37 z38 z39 z40 z41 z42 z43 z44 z45 z46 z47 z48 z49 z50 z51 z52 z53 z54 z55 z56 z57 z58 z59 z60 z61 z62 z63 z64 z65 z66 z67 z68 z69 z70 z71 z72 z73 z74 z75 z76 z77 z78 z79 z80 z81 z82 z83 z84 z85 z86 z87 z88 z89 z90 z91 z92 z93 z94 z95 z96 z97 z98 z99 z100 z101 z102 z103 z104 z105 z106 z107 z108 z109 z110 z111 z112 z113 z114 z115 z116 z117 z118 z119 z120 z121 z122 z123 z124 z125 z126 z127 z128 z129 z130 z131 z132 z133 z134 z135 z136 z137 z138 z139 z140 z141 z142 z143 z144 z145 z146 z147 z148 z149 z150 z151 z152 z153 z154 z155 z156 z157 z158 z159 z160 z161 z162 z163 z164 z165 z166 z167 : Value} (KW : Aside0 (Keys x w W sec [])) (HE : Aside0 (x.b = b0 ∧ x.under nn ∧ OnlyP x.Ds)) (HNW : Aside0 (w.heap.size ≤ nn ∧ nn ≤ W.heap.size)) (H1 : Aside0 (kP.C w A1 sg.length sg)) (HS1 : Aside0 (∀ p ∈ sg, IsD p.2)) (HN1 : Aside0 (sg.length ≤ 1099511627776)) (HF : Aside0 (LaidF w)) (HL : Aside0 (LaidR w)) :
    left Tryd.prog 2 (codeIn (codeNext (codeFirst (codeNext (codeNext (codeNext (codeNext (codeNext (codeNext bookCode))))))))) [4, 8, 9, 10, 42, 43, 44, 45, 46, 47, 48, 49, 50, 51, 52, 53, 54, 55, 56, 57, 58, 59, 60, 61, 62, 63, 64, 65, 66, 67, 68, 69] (fun j W' => ∃ z : RV, (z.b = b0 ∧ z.under nn ∧ OnlyP z.Ds) ∧ Keys z w W' sec (sg.take 40)) ⟨#[z0, .slice A1 sg.length c1, z2, z3, z4, .pointer (some ⟨b0, 0, none⟩), z6, z7, .int .i64 0, z9, z10, z11, z12, z13, z14, z15, z16, z17, z18, z19, z20, z21, z22, z23, z24, z25, z26, z27, z28, z29, z30, z31, z32, z33, z34, z35, z36, z37, z38, z39, z40, z41, z42, z43, z44, z45, z46, z47, z48, z49, z50, z51, z52, z53, z54, z55, z56, z57, z58, z59, z60, z61, z62, z63, z64, z65, z66, z67, z68, z69, z70, z71, z72, z73, z74, z75, z76, z77, z78, z79, z80, z81, z82, z83, z84, z85, z86, z87, z88, z89, z90, z91, z92, z93, z94, z95, z96, z97, z98, z99, z100, z101, z102, z103, z104, z105, z106, z107, z108, z109, z110, z111, z112, z113, z114, z115, z116, z117, z118, z119, z120, z121, z122, z123, z124, z125, z126, z127, z128, z129, z130, z131, z132, z133, z134, z135, z136, z137, z138, z139, z140, z141, z142, z143, z144, z145, z146, z147, z148, z149, z150, z151, z152, z153, z154, z155, z156, z157, z158, z159, z160, z161, z162, z163, z164, z165, z166, z167], []⟩ W := by
  dsimp only [bookIn, bookCode, codeOf, codeNext, codeFirst, codeIn, Tryd.f6, Option.getD]
  unfold left
  go_loopg [8] sg.length (fun gg s8 wr => ∃ (i : Nat) (y : RV), Aside0 (i ≤ sg.length ∧ i ≤ 40 ∧ sg.length - i ≤ gg) ∧ s8 = .int .i64 (i : Int) ∧ Aside0 (Keys y w wr sec (sg.take i)) ∧ Aside0 (y.b = b0 ∧ y.under nn ∧ OnlyP y.Ds) ∧ Aside0 (nn ≤ wr.heap.size))
  case atStart => exact ⟨0, x, ⟨Nat.zero_le _, by omega, Nat.le_refl _⟩, rfl, KW, HE, ⟨HNW.out.2⟩⟩
  case round =>
    obtain ⟨i, y, HI, rfl, HK, HY, HZW⟩ := hrel
    by_cases hlt : i < sg.length ∧ i < 40
    · have HLT := Aside0.mk hlt.1
      have HL4 := Aside0.mk hlt.2
      have c0 : decide ((i : Int) < (sg.length : Int)) = true := decide_eq_true (by omega)
      have c1' : decide (i < sg.length) = true := decide_eq_true hlt.1
      have c2' : decide ((i : Int) < 40) = true := decide_eq_true (by omega)
      have c3' : decide (i < 40) = true := decide_eq_true hlt.2
      obtain ⟨p, hp⟩ : ∃ p, sg[i]? = some p := ⟨_, List.getElem?_eq_getElem hlt.1⟩
      have HP := Aside0.mk hp
      have HPD := Aside0.mk (HS1.out p (List.mem_of_getElem? hp))
      obtain ⟨ad, had, _⟩ := H1.out.2.2 (by omega)
      subst had
      obtain ⟨ps, hps⟩ : ∃ ps, sg.take i = ps := ⟨_, rfl⟩
      have HPL := Aside0.mk (show ps.length = i by rw [← hps, List.length_take]; omega)
      have HPN := Aside0.mk (show sg.take (i + 1) = ps ++ [p] by rw [← hps, List.take_add_one, hp]; rfl)
      rw [hps] at HK
      obtain ⟨sl, hsl⟩ : ∃ v, sealf sec p = v := ⟨_, rfl⟩
      have HSL2 := Aside0.mk hsl
      have HSI := Aside0.mk (show IsD sl by rw [← hsl]; exact seal_is _ _)
      have HDs := Aside0.mk (digest_facts HSI.out.1)
      have p0 : (0 : Int) ≤ (i : Int) := by omega
      have en : (i : Int) + 1 = ((i + 1 : Nat) : Int) := by omega
      have mn : i + 1 ≤ 9223372036854775807 := by omega
      obtain ⟨hwn, hvn⟩ := idx_at en mn
      clear en mn hlt hp hps hsl
      go_wp2_with (fail)
      have HKB := Aside0.mk HK.out.below
      have HZ1 := Aside0.mk (show nn ≤ wr.drew.heap.size from HZW.out)
      have HK0 := Aside0.mk HK.out
      refine wp_region_noPanic ?_
      refine start_ (n := 19) (S := fun w' => Below w.heap.size w w') (ds := []) #[false, false, false, false, false, false, false, false, false, false, false, false, false, false, false, false, false, false, false] (by kernel_rfl) rfl rfl (below_drew HKB.out) (fun hHeld => ?_)
      refine pure_ (i := 0) (N := some 53) (v := ?v1) (a' := ?a1) #[true, false, false, false, false, false, false, false, false, false, false, false, false, false, false, false, false, false, false] rfl rfl (by kernel_rfl) (fun _ _ _ h => h) (Or.inl ⟨by rfl, ?hy1⟩) ?ha1 ?hh1
      case hy1 =>
        intro w'
        go_simp
        with_reducible rfl
      case ha1 =>
        simp only [Act.put, List.setIfInBounds_toArray, List.set_cons_zero, List.set_cons_succ]
        rfl
      refine pure_ (i := 1) (N := some 54) (v := ?v2) (a' := ?a2) #[true, true, false, false, false, false, false, false, false, false, false, false, false, false, false, false, false, false, false] rfl rfl (by kernel_rfl) (fun _ _ _ h => h) (Or.inl ⟨by rfl, ?hy2⟩) ?ha2 ?hh2
      case hy2 =>
        intro w'
        go_simp
        with_reducible rfl
      case ha2 =>
        simp only [Act.put, List.setIfInBounds_toArray, List.set_cons_zero, List.set_cons_succ]
        rfl
      refine pure_ (i := 2) (N := some 55) (v := ?v3) (a' := ?a3) #[true, true, true, false, false, false, false, false, false, false, false, false, false, false, false, false, false, false, false] rfl rfl (by kernel_rfl) (fun _ _ _ h => h) (Or.inl ⟨by rfl, ?hy3⟩) ?ha3 ?hh3
      case hy3 =>
        intro w'
        go_simp
        with_reducible rfl
      case ha3 =>
        simp only [Act.put, List.setIfInBounds_toArray, List.set_cons_zero, List.set_cons_succ]
        rfl
      refine pure_ (i := 3) (N := some 56) (v := (.pointer (some (ad.add (i * 33))))) (a' := ?a4) #[true, true, true, true, false, false, false, false, false, false, false, false, false, false, false, false, false, false, false] rfl rfl (by kernel_rfl) (fun _ _ _ h => h) (Or.inl ⟨by rfl, fun w' => idxP_run (.tmp 54) (.tmp 55) rfl ad sg.length c1 i rfl rfl HLT.out⟩) ?ha4 ?hh4
      case ha4 =>
        simp only [Act.put, List.setIfInBounds_toArray, List.set_cons_zero, List.set_cons_succ]
        rfl
      refine pure_ (i := 4) (N := some 57) (v := (.pointer (some (ad.add (i * 33))))) (a' := ?a5) #[true, true, true, true, true, false, false, false, false, false, false, false, false, false, false, false, false, false, false] rfl rfl (by kernel_rfl) (fun _ _ _ h => h) (Or.inl ⟨by rfl, fun w' => fld0_run (.tmp 56) rfl _ rfl⟩) ?ha5 ?hh5
      case ha5 =>
        simp only [Act.put, List.setIfInBounds_toArray, List.set_cons_zero, List.set_cons_succ]
        rfl
      refine take_ (i := 5) (N := some 58) (v := (.int .i64 p.1)) (a' := ?a6) #[true, true, true, true, true, true, false, false, false, false, false, false, false, false, false, false, false, false, false] rfl rfl (by kernel_rfl) (fun _ _ _ h => h) (Or.inl ⟨by rfl, fun w' s0 => loadI_run (.tmp 57) rfl _ rfl _ (pair_at (Kd.C_below H1.out s0) HP.out).1⟩) hHeld ?ha6 ?hh6
      case ha6 =>
        simp only [Act.put, List.setIfInBounds_toArray, List.set_cons_zero, List.set_cons_succ]
        rfl
      refine pure_ (i := 7) (N := some 60) (v := ?v7) (a' := ?a7) #[true, true, true, true, true, true, false, true, false, false, false, false, false, false, false, false, false, false, false] rfl rfl (by kernel_rfl) (fun _ _ _ h => h) (Or.inl ⟨by rfl, ?hy7⟩) ?ha7 ?hh7
      case hy7 =>
        intro w'
        go_simp
        with_reducible rfl
      case ha7 =>
        simp only [Act.put, List.setIfInBounds_toArray, List.set_cons_zero, List.set_cons_succ]
        rfl
      refine pure_ (i := 8) (N := some 61) (v := ?v8) (a' := ?a8) #[true, true, true, true, true, true, false, true, true, false, false, false, false, false, false, false, false, false, false] rfl rfl (by kernel_rfl) (fun _ _ _ h => h) (Or.inl ⟨by rfl, ?hy8⟩) ?ha8 ?hh8
      case hy8 =>
        intro w'
        go_simp
        with_reducible rfl
      case ha8 =>
        simp only [Act.put, List.setIfInBounds_toArray, List.set_cons_zero, List.set_cons_succ]
        rfl
      refine pure_ (i := 9) (N := some 62) (v := (.pointer (some (ad.add (i * 33))))) (a' := ?a9) #[true, true, true, true, true, true, false, true, true, true, false, false, false, false, false, false, false, false, false] rfl rfl (by kernel_rfl) (fun _ _ _ h => h) (Or.inl ⟨by rfl, fun w' => idxP_run (.tmp 60) (.tmp 61) rfl ad sg.length c1 i rfl rfl HLT.out⟩) ?ha9 ?hh9
      case ha9 =>
        simp only [Act.put, List.setIfInBounds_toArray, List.set_cons_zero, List.set_cons_succ]
        rfl
      refine pure_ (i := 10) (N := some 63) (v := (.pointer (some (ad.add (i * 33 + 1))))) (a' := ?a10) #[true, true, true, true, true, true, false, true, true, true, true, false, false, false, false, false, false, false, false] rfl rfl (by kernel_rfl) (fun _ _ _ h => h) (Or.inl ⟨by rfl, fun w' => fld1_run (.tmp 62) rfl ad i rfl⟩) ?ha10 ?hh10
      case ha10 =>
        simp only [Act.put, List.setIfInBounds_toArray, List.set_cons_zero, List.set_cons_succ]
        rfl
      refine take_ (i := 11) (N := some 64) (v := (.agg (nums .u8 p.2).toArray)) (a' := ?a11) #[true, true, true, true, true, true, false, true, true, true, true, true, false, false, false, false, false, false, false] rfl rfl (by kernel_rfl) (fun _ _ _ h => h) (Or.inl ⟨by rfl, fun w' s0 => loadD_run (.tmp 63) rfl _ rfl _ (pair_at (Kd.C_below H1.out s0) HP.out).2.2 (pair_at (Kd.C_below H1.out s0) HP.out).2.1⟩) hHeld ?ha11 ?hh11
      case ha11 =>
        simp only [Act.put, List.setIfInBounds_toArray, List.set_cons_zero, List.set_cons_succ]
        rfl
      have keys_rj := Aside0.mk (HK.out.drew)
      have bel_rj := Aside0.mk (below_drew HKB.out)
      clear hHeld
      refine join_ 2 #[true, true, true, true, true, true, true, true, true, true, true, true, true, true, true, true, true, false, false] (fun b20 : Nat => [(59, .string (nm p.1)), (65, .tuple #[.agg (nums .u8 sl).toArray, .int .i64 0]), (9, .pointer (some ⟨b20, 0, none⟩)), (52, .tuple #[.agg (nums .u8 sl).toArray, .int .i64 0]), (66, .agg (nums .u8 sl).toArray), (67, .int .i64 0)]) (fun b20 w' => Keys (y.signedWith (nm p.1) p.2 sl) w w' sec (ps ++ [(p.1, p.2)]) ∧ Below w.heap.size w w' ∧ w'.heap[b20]? = some (.cells (nums .u8 zeroD).toArray 27 (0, 0)) ∧ nn ≤ b20) ?hcontrj (fun hJ => ?hwaysrj)
      case hwaysrj =>
        refine two_ (i := 6) (j := 16) (Ni := some 59) (Nj := some 9) #[true, true, true, true, true, true, true, true, true, true, true, true, false, false, false, false, false, false, false] #[true, true, true, true, true, true, false, true, true, true, true, true, false, false, false, false, true, false, false] rfl rfl rfl rfl (by kernel_rfl) (by decide) (by decide) (fun K hK => ?way1rj) (fun K hK => ?way2rj)
        case way1rj =>
          refine goes_ Tryd.func9 (by kernel_rfl) rfl #[.int .i64 p.1] (by rfl) rfl rfl (by simp only [List.map_toArray, List.map_cons, List.map_nil]; rfl) ?_
          refine (name_calls p.1 _).mono ?_
          rintro e wnrj1 ⟨rfl, lnrj1⟩
          refine ⟨_, rfl, hK.out _ _ (below_step bel_rj.out lnrj1) (fun _ => ?_)⟩
          clear hK K
          refine two_ (i := 12) (j := 16) (Ni := some 65) (Nj := some 9) #[true, true, true, true, true, true, true, true, true, true, true, true, true, false, false, false, false, false, false] #[true, true, true, true, true, true, true, true, true, true, true, true, false, false, false, false, true, false, false] rfl rfl rfl rfl (by kernel_rfl) (by decide) (by decide) (fun K hK => ?way3rj) (fun K hK => ?way4rj)
          case way3rj =>
            refine goes_ Tryd.func11 (by kernel_rfl) rfl #[.pointer (some ⟨b0, 0, none⟩), .string (nm p.1), .agg (nums .u8 p.2).toArray] (by rfl) rfl rfl (by simp only [List.map_toArray, List.map_cons, List.map_nil]; rfl) ?_
            refine ((keys_rj.out.low lnrj1).signB HY.out.1 HF.out HL.out p.1 p.2 sl HSL2.out HPD.out (by rw [HPL.out]; have := HI.out; omega)).mono ?_
            rintro e wsrj2 ⟨rfl, ksrj2, hsrj2⟩
            refine ⟨_, rfl, hK.out _ _ (hsrj2.below) (fun _ => ?_)⟩
            clear hK K
            refine pure_ (i := 13) (N := some 52) (v := ?v12) (a' := ?a12) #[true, true, true, true, true, true, true, true, true, true, true, true, true, true, false, false, false, false, false] rfl rfl (by kernel_rfl) (fun _ _ _ h => h) (Or.inl ⟨by rfl, ?hy12⟩) ?ha12 ?hh12
            case hy12 =>
              intro w'
              go_simp
              with_reducible rfl
            case ha12 =>
              simp only [Act.put, List.setIfInBounds_toArray, List.set_cons_zero, List.set_cons_succ]
              rfl
            refine pure_ (i := 14) (N := some 66) (v := ?v13) (a' := ?a13) #[true, true, true, true, true, true, true, true, true, true, true, true, true, true, true, false, false, false, false] rfl rfl (by kernel_rfl) (fun _ _ _ h => h) (Or.inl ⟨by rfl, ?hy13⟩) ?ha13 ?hh13
            case hy13 =>
              intro w'
              go_simp
              with_reducible rfl
            case ha13 =>
              simp only [Act.put, List.setIfInBounds_toArray, List.set_cons_zero, List.set_cons_succ]
              rfl
            refine pure_ (i := 15) (N := some 67) (v := ?v14) (a' := ?a14) #[true, true, true, true, true, true, true, true, true, true, true, true, true, true, true, true, false, false, false] rfl rfl (by kernel_rfl) (fun _ _ _ h => h) (Or.inl ⟨by rfl, ?hy14⟩) ?ha14 ?hh14
            case hy14 =>
              intro w'
              go_simp
              with_reducible rfl
            case ha14 =>
              simp only [Act.put, List.setIfInBounds_toArray, List.set_cons_zero, List.set_cons_succ]
              rfl
            refine one_ (i := 16) (N := some 9) #[true, true, true, true, true, true, true, true, true, true, true, true, true, true, true, true, true, false, false] rfl rfl (by kernel_rfl) (by decide) (fun K hK => ?_)
            refine box_step (by rfl) (N := 9) rfl (cs := (nums .u8 zeroD).toArray) (t := 27) (by first | (go_simp; done) | (go_simp; rfl)) ?_
            intro b20 b20e warj3 b20b larj3
            refine hK.out _ _ (below_step (hsrj2.below) larj3) (fun _ => ?_)
            clear hK K
            have h := hJ b20 warj3 ⟨(hsrj2.low larj3), (below_step (hsrj2.below) larj3), b20b, by have z1 := lnrj1.size; have z2 := ksrj2.1; have z3 := larj3.size; have z0 := HZ1.out; omega⟩
            simp only [putAll, Act.put, List.setIfInBounds_toArray, List.set_cons_zero, List.set_cons_succ] at h ⊢
            exact h
          case way4rj =>
            refine box_step (by rfl) (N := 9) rfl (cs := (nums .u8 zeroD).toArray) (t := 27) (by first | (go_simp; done) | (go_simp; rfl)) ?_
            intro b20 b20e warj4 b20b larj4
            refine hK.out _ _ (below_step (below_step bel_rj.out lnrj1) larj4) (fun _ => ?_)
            clear hK K
            refine one_ (i := 12) (N := some 65) #[true, true, true, true, true, true, true, true, true, true, true, true, true, false, false, false, true, false, false] rfl rfl (by kernel_rfl) (by decide) (fun K hK => ?_)
            refine goes_ Tryd.func11 (by kernel_rfl) rfl #[.pointer (some ⟨b0, 0, none⟩), .string (nm p.1), .agg (nums .u8 p.2).toArray] (by rfl) rfl rfl (by simp only [List.map_toArray, List.map_cons, List.map_nil]; rfl) ?_
            refine (((keys_rj.out.low lnrj1).low larj4).signB HY.out.1 HF.out HL.out p.1 p.2 sl HSL2.out HPD.out (by rw [HPL.out]; have := HI.out; omega)).mono ?_
            rintro e wsrj5 ⟨rfl, ksrj5, hsrj5⟩
            refine ⟨_, rfl, hK.out _ _ (hsrj5.below) (fun _ => ?_)⟩
            clear hK K
            refine pure_ (i := 13) (N := some 52) (v := ?v15) (a' := ?a15) #[true, true, true, true, true, true, true, true, true, true, true, true, true, true, false, false, true, false, false] rfl rfl (by kernel_rfl) (fun _ _ _ h => h) (Or.inl ⟨by rfl, ?hy15⟩) ?ha15 ?hh15
            case hy15 =>
              intro w'
              go_simp
              with_reducible rfl
            case ha15 =>
              simp only [Act.put, List.setIfInBounds_toArray, List.set_cons_zero, List.set_cons_succ]
              rfl
            refine pure_ (i := 14) (N := some 66) (v := ?v16) (a' := ?a16) #[true, true, true, true, true, true, true, true, true, true, true, true, true, true, true, false, true, false, false] rfl rfl (by kernel_rfl) (fun _ _ _ h => h) (Or.inl ⟨by rfl, ?hy16⟩) ?ha16 ?hh16
            case hy16 =>
              intro w'
              go_simp
              with_reducible rfl
            case ha16 =>
              simp only [Act.put, List.setIfInBounds_toArray, List.set_cons_zero, List.set_cons_succ]
              rfl
            refine pure_ (i := 15) (N := some 67) (v := ?v17) (a' := ?a17) #[true, true, true, true, true, true, true, true, true, true, true, true, true, true, true, true, true, false, false] rfl rfl (by kernel_rfl) (fun _ _ _ h => h) (Or.inl ⟨by rfl, ?hy17⟩) ?ha17 ?hh17
            case hy17 =>
              intro w'
              go_simp
              with_reducible rfl
            case ha17 =>
              simp only [Act.put, List.setIfInBounds_toArray, List.set_cons_zero, List.set_cons_succ]
              rfl
            have h := hJ b20 wsrj5 ⟨hsrj5, (hsrj5.below), (keep_blk ksrj5 ((keys_rj.out.low lnrj1).low larj4).at_.signed b20b), by have z1 := lnrj1.size; have z0 := HZ1.out; omega⟩
            simp only [putAll, Act.put, List.setIfInBounds_toArray, List.set_cons_zero, List.set_cons_succ] at h ⊢
            exact h
        case way2rj =>
          refine box_step (by rfl) (N := 9) rfl (cs := (nums .u8 zeroD).toArray) (t := 27) (by first | (go_simp; done) | (go_simp; rfl)) ?_
          intro b20 b20e warj6 b20b larj6
          refine hK.out _ _ (below_step bel_rj.out larj6) (fun _ => ?_)
          clear hK K
          refine one_ (i := 6) (N := some 59) #[true, true, true, true, true, true, true, true, true, true, true, true, false, false, false, false, true, false, false] rfl rfl (by kernel_rfl) (by decide) (fun K hK => ?_)
          refine goes_ Tryd.func9 (by kernel_rfl) rfl #[.int .i64 p.1] (by rfl) rfl rfl (by simp only [List.map_toArray, List.map_cons, List.map_nil]; rfl) ?_
          refine (name_calls p.1 _).mono ?_
          rintro e wnrj7 ⟨rfl, lnrj7⟩
          refine ⟨_, rfl, hK.out _ _ (below_step (below_step bel_rj.out larj6) lnrj7) (fun _ => ?_)⟩
          clear hK K
          refine one_ (i := 12) (N := some 65) #[true, true, true, true, true, true, true, true, true, true, true, true, true, false, false, false, true, false, false] rfl rfl (by kernel_rfl) (by decide) (fun K hK => ?_)
          refine goes_ Tryd.func11 (by kernel_rfl) rfl #[.pointer (some ⟨b0, 0, none⟩), .string (nm p.1), .agg (nums .u8 p.2).toArray] (by rfl) rfl rfl (by simp only [List.map_toArray, List.map_cons, List.map_nil]; rfl) ?_
          refine (((keys_rj.out.low larj6).low lnrj7).signB HY.out.1 HF.out HL.out p.1 p.2 sl HSL2.out HPD.out (by rw [HPL.out]; have := HI.out; omega)).mono ?_
          rintro e wsrj8 ⟨rfl, ksrj8, hsrj8⟩
          refine ⟨_, rfl, hK.out _ _ (hsrj8.below) (fun _ => ?_)⟩
          clear hK K
          refine pure_ (i := 13) (N := some 52) (v := ?v18) (a' := ?a18) #[true, true, true, true, true, true, true, true, true, true, true, true, true, true, false, false, true, false, false] rfl rfl (by kernel_rfl) (fun _ _ _ h => h) (Or.inl ⟨by rfl, ?hy18⟩) ?ha18 ?hh18
          case hy18 =>
            intro w'
            go_simp
            with_reducible rfl
          case ha18 =>
            simp only [Act.put, List.setIfInBounds_toArray, List.set_cons_zero, List.set_cons_succ]
            rfl
          refine pure_ (i := 14) (N := some 66) (v := ?v19) (a' := ?a19) #[true, true, true, true, true, true, true, true, true, true, true, true, true, true, true, false, true, false, false] rfl rfl (by kernel_rfl) (fun _ _ _ h => h) (Or.inl ⟨by rfl, ?hy19⟩) ?ha19 ?hh19
          case hy19 =>
            intro w'
            go_simp
            with_reducible rfl
          case ha19 =>
            simp only [Act.put, List.setIfInBounds_toArray, List.set_cons_zero, List.set_cons_succ]
            rfl
          refine pure_ (i := 15) (N := some 67) (v := ?v20) (a' := ?a20) #[true, true, true, true, true, true, true, true, true, true, true, true, true, true, true, true, true, false, false] rfl rfl (by kernel_rfl) (fun _ _ _ h => h) (Or.inl ⟨by rfl, ?hy20⟩) ?ha20 ?hh20
          case hy20 =>
            intro w'
            go_simp
            with_reducible rfl
          case ha20 =>
            simp only [Act.put, List.setIfInBounds_toArray, List.set_cons_zero, List.set_cons_succ]
            rfl
          have h := hJ b20 wsrj8 ⟨hsrj8, (hsrj8.below), (keep_blk ksrj8 ((keys_rj.out.low larj6).low lnrj7).at_.signed (blk_below b20b lnrj7)), by have z0 := HZ1.out; omega⟩
          simp only [putAll, Act.put, List.setIfInBounds_toArray, List.set_cons_zero, List.set_cons_succ] at h ⊢
          exact h
      intro b20 wjrj hFrj
      obtain ⟨hkeysrj, hbelrj, hbzrj, hbsrj⟩ := hFrj
      clear keys_rj bel_rj
      simp only [putAll, Act.put, List.setIfInBounds_toArray, List.set_cons_zero, List.set_cons_succ]
      refine one_ (i := 17) (N := none) #[true, true, true, true, true, true, true, true, true, true, true, true, true, true, true, true, true, true, false] rfl rfl (by kernel_rfl) (by decide) (fun K hK => ?_)
      rw [if_pos (by rfl)]
      refine wp_store_row 27 (.tmp 9) (.tmp 66) rfl b20 (nums .u8 sl).toArray rfl rfl 27 _ hbzrj HDs.out.1 (by rw [HDs.out.2.1]; rfl) HDs.out.2.2 ?_
      have HB20 := Aside0.mk hbsrj
      have K20 := Aside0.mk (hkeysrj.row (n := nn) HY.out.2.1 HB20.out (Nat.le_trans HNW.out.1 HB20.out) (nums .u8 sl).toArray)
      have HKB20 := Aside0.mk K20.out.below
      have HSZ20 := Aside0.mk (show nn ≤ (wjrj.setRow b20 (nums .u8 sl).toArray).heap.size by have z1 := blk_lt hbzrj; have z2 := HB20.out; simp [World.setRow]; omega)
      obtain ⟨z, hz⟩ : ∃ z, (y.signedWith (nm p.1) p.2 sl) = z := ⟨_, rfl⟩
      have HZ := Aside0.mk (show z.b = b0 ∧ z.under nn ∧ OnlyP z.Ds by rw [← hz]; exact ⟨HY.out.1, HY.out.2.1, HY.out.2.2.put ⟨nm_okS _, HPD.out⟩ HK0.out.at_.signed.isMap _⟩)
      rw [hz] at K20
      clear hkeysrj hbelrj hbzrj hbsrj hz
      generalize wjrj.setRow b20 (nums .u8 sl).toArray = w20 at K20 HKB20 HSZ20 ⊢
      refine hK.out _ _ (HKB20.out) (fun _ => ?_)
      clear hK K
      refine norm_ (a' := ?an17) ?hn17 ?hm17
      case hn17 =>
        show Act.put _ none _ = _
        simp only [Act.put]
        rfl
      refine pure_ (i := 18) (N := some 10) (v := ?v21) (a' := ?a21) #[true, true, true, true, true, true, true, true, true, true, true, true, true, true, true, true, true, true, true] rfl rfl (by kernel_rfl) (fun _ _ _ h => h) (Or.inl ⟨by rfl, ?hy21⟩) ?ha21 ?hh21
      case hy21 =>
        intro w'
        go_simp
        with_reducible rfl
      case ha21 =>
        simp only [Act.put, List.setIfInBounds_toArray, List.set_cons_zero, List.set_cons_succ]
        rfl
      refine done_ (by kernel_rfl) ?_
      refine NoPanic.normal ?_
      go_wp2
      go_roundg (sg.length - (i + 1))
      case measure => clear hwn hvn; have := HI.out; have := HLT.out; omega
      case rel => exact ⟨i + 1, z, ⟨by clear hwn hvn; have := HLT.out; omega, by clear hwn hvn; have := HL4.out; omega, by clear hwn hvn; exact Nat.le_refl _⟩, by first | (with_reducible rfl) | (simp [hwn]; done) | go_num, ⟨by rw [HPN.out]; exact K20.out⟩, HZ, HSZ20⟩
    · have HC40 := Aside0.mk (show sg.take i = sg.take 40 by
        rcases Nat.lt_or_ge i sg.length with h | h
        · have : i = 40 := by have := HI.out; omega
          rw [this]
        · rw [List.take_of_length_le h, List.take_of_length_le (by have := HI.out; omega)])
      have hor : ¬ i < sg.length ∨ (i < sg.length ∧ ¬ i < 40) := by omega
      clear hlt
      rcases hor with h | ⟨h, h'⟩
      · have c0 : decide ((i : Int) < (sg.length : Int)) = false := decide_eq_false (by omega)
        have c1' : decide (i < sg.length) = false := decide_eq_false h
        clear h
        go_wp2
        refine ⟨by trivial, ?_, y, HY.out, by rw [← HC40.out]; exact HK.out⟩
        simp only [List.map_cons, List.map_nil, putAll, Act.put, List.setIfInBounds_toArray, List.set_cons_zero, List.set_cons_succ]
        try rfl
      · have c0 : decide ((i : Int) < (sg.length : Int)) = true := decide_eq_true (by omega)
        have c1' : decide (i < sg.length) = true := decide_eq_true h
        have c2' : decide ((i : Int) < 40) = false := decide_eq_false (by omega)
        have c3' : decide (i < 40) = false := decide_eq_false h'
        clear h h'
        go_wp2
        refine ⟨by trivial, ?_, y, HY.out, by rw [← HC40.out]; exact HK.out⟩
        simp only [List.map_cons, List.map_nil, putAll, Act.put, List.setIfInBounds_toArray, List.set_cons_zero, List.set_cons_succ]
        try rfl
end Go.Proofs.YtoigoiefnapokaaDoor.T
namespace Go.Proofs.YtoigoiefnapokaaDoor.T
open Go.RowKit Go.Maps Go.MuLone Go.Proofs.YtoigoiefnapokaaDoorW.PrintWords Go.Proofs.YtoigoiefnapokaaDoorW.PrintLast
theorem nm_no (n : Int) : nm n ≠ (⟨#[110, 111, 98, 111, 100, 121]⟩ : ByteArray) := by
  rw [← nm_nix n]
  have h := nix_lt n
  generalize nix n = j at h
  have h2 : ∀ j : Fin 8, nm ((j : Nat) : Int) ≠ (⟨#[110, 111, 98, 111, 100, 121]⟩ : ByteArray) := by decide +kernel
  exact h2 ⟨j, h⟩
theorem Keys.noSigned {x : RV} {w W : World} {sec : List Int} {ps : List Pr} (h : Keys x w W sec ps) {b : Nat} (hb : x.b = b) (hO : OnlyP x.Ds) (hl : ps.length ≤ 100000) :
    Calls Tryd.prog 17 #[.pointer (some ⟨b, 0, none⟩), .string ⟨#[110, 111, 98, 111, 100, 121]⟩] W fun e w' => ∃ (A : Option Addr) (c : Nat), e = .returned (.slice A 0 c) ∧ Below W.heap.size W w' := by
  subst hb
  have ho : okS (⟨#[110, 111, 98, 111, 100, 121]⟩ : ByteArray) := by unfold okS; decide
  refine (slist_calls W x _ h.at_ hO _ ho (by rw [h.ns]; exact hl)).mono ?_
  rintro e w' ⟨A, c, ds, rfl, hnd, hm, _, _, hb⟩
  have e0 : ds = [] := by
    refine List.eq_nil_iff_forall_not_mem.2 (fun d hd => ?_)
    have h1 := (hm d).1 hd
    rw [h.signed.has ((⟨#[110, 111, 98, 111, 100, 121]⟩ : ByteArray), d.1) ⟨ho, d.2⟩] at h1
    unfold sf at h1
    rw [if_neg] at h1
    · cases h1
    · rintro ⟨p, hp, e⟩
      exact nm_no p.1 (congrArg Prod.fst e).symm
  subst e0
  exact ⟨A, c, rfl, hb⟩
theorem Keys.noHas {x : RV} {w W : World} {sec : List Int} {ps : List Pr} (h : Keys x w W sec ps) {b : Nat} (hb : x.b = b) :
    Calls Tryd.prog 15 #[.pointer (some ⟨b, 0, none⟩), .string ⟨#[110, 111, 98, 111, 100, 121]⟩] W fun e w' => e = .returned (.bool false) ∧ Below W.heap.size W w' := by
  subst hb
  refine (has_calls W x _ h.at_ _ h.keys (gf_is sec 8) (⟨#[110, 111, 98, 111, 100, 121]⟩ : ByteArray) (by unfold okS; decide)).mono ?_
  rintro e w' ⟨rfl, hb⟩
  have e0 : gf sec 8 (⟨#[110, 111, 98, 111, 100, 121]⟩ : ByteArray) = none := by
    unfold gf
    rw [if_neg]
    rintro ⟨j, hj, e⟩
    exact nm_no (j : Int) e.symm
  rw [e0]
  exact ⟨rfl, hb⟩
theorem Keys.namesB {x : RV} {w W : World} {sec : List Int} {ps : List Pr} (h : Keys x w W sec ps) :
    Calls Tryd.prog 16 #[.pointer (some ⟨x.b, 0, none⟩)] W fun e w' => ∃ (A : Option Addr) (c : Nat) (ts : List (List UInt8)), e = .returned (.slice A ts.length c) ∧ ts.length = 8 ∧ (∀ (m : Nat) (d e : List UInt8), ts[m]? = some d → ts[m + 1]? = some e → Op.bytesLess d e = true) ∧ kS.C w' A ts.length ts ∧ Below W.heap.size W w' := by
  refine h.names.mono ?_
  rintro e w' ⟨A, c, ts, rfl, hl, hs, hR, hb⟩
  refine ⟨A, c, ts, rfl, hl, fun m d e' h1 h2 => ?_, (Kd.R_reads' hR).2.2, hb⟩
  obtain ⟨i1, e1⟩ := List.getElem?_eq_some_iff.1 h1
  obtain ⟨i2, e2⟩ := List.getElem?_eq_some_iff.1 h2
  have := List.pairwise_iff_getElem.1 hs m (m + 1) i1 i2 (by omega)
  rw [e1, e2] at this
  exact bl_lt this
set_option maxHeartbeats 16000000 in
set_option maxRecDepth 100000 in
theorem book_calls (w : World) (A A1 : Option Addr) (c c1 : Nat) (sec : List Int) (sg : List Pr) (hA : ReadsInt w .u8 A sec.length sec) (hn : sec.length ≤ 140737488355328) (h1 : kP.C w A1 sg.length sg) (hs : ∀ p ∈ sg, IsD p.2) (hn1 : sg.length ≤ 1099511627776) (hF : LaidF w) (hL : LaidR w) :
    Calls Tryd.prog 6 #[.slice A sec.length c, .slice A1 sg.length c1] w fun e w' => e = .returned (.bool true) ∧ Below w.heap.size w w' := by
  have HA := Aside0.mk hA
  have HN := Aside0.mk hn
  have H1 := Aside0.mk h1
  have HS := Aside0.mk hs
  have HNS := Aside0.mk hn1
  have HF := Aside0.mk hF
  have HL := Aside0.mk hL
  clear hA hn h1 hs hn1 hF hL
  go_enter Tryd.func6, Tryd.ntmps6
  go_wp2_with (first
    | (go_at_call 7; go_loud (refine (enrolled_keys w w (Below.refl _ _) A c sec HA.out HN.out HF.out HL.out).mono ?_; rintro e w2 ⟨x, rfl, hx, hox, _, _, hb2⟩; have K2 := Aside0.mk hx; have OX := Aside0.mk hox; clear hx hox hb2))
    | (go_at_call 16; go_loud (refine K2.out.namesB.mono ?_; rintro e w3 ⟨A6, c6, ts, rfl, htl, hri, hC, l3⟩; have c8 : ((ts.length : Int) == 8) = true := (by rw [htl]; rfl); have c9 : decide ((ts.length : Int) = 8) = true := (by rw [htl]; rfl); have c10 : decide (ts.length = 8) = true := decide_eq_true htl; have HTL := Aside0.mk htl; have HRI := Aside0.mk hri; have HC := Aside0.mk hC; have K3 := Aside0.mk (K2.out.low l3); clear htl hri hC l3)))
  clear c8 c9 c10
  refine wp_left [4, 7, 26, 27, 28, 29, 30, 31, 32, 33, 34, 35, 36, 37, 38, 39, 40, 41] (fun j W' => Below w3.heap.size w3 W') ?contA (book_names HC HRI ⟨by rw [HTL.out]; decide⟩)
  case contA =>
    rintro ja w4 hb4
    have K4 := Aside0.mk (K3.out.low hb4)
    have HU4 := Aside0.mk K4.out.at_.under
    simp only [List.map_cons, List.map_nil, putAll, Act.put, List.setIfInBounds_toArray, List.set_cons_zero, List.set_cons_succ]
    clear hb4
    go_wp2_with (fail)
    refine wp_left [4, 8, 9, 10, 42, 43, 44, 45, 46, 47, 48, 49, 50, 51, 52, 53, 54, 55, 56, 57, 58, 59, 60, 61, 62, 63, 64, 65, 66, 67, 68, 69] (fun j W' => ∃ z : RV, (z.b = x.b ∧ z.under w4.heap.size ∧ OnlyP z.Ds) ∧ Keys z w W' sec (sg.take 40)) ?contB (book_signs K4 ⟨⟨rfl, HU4.out, OX.out⟩⟩ ⟨⟨K4.out.below.size, Nat.le_refl _⟩⟩ H1 HS HNS HF HL)
    case contB =>
      rintro jb w5 ⟨z, hz, hk5⟩
      have HZ := Aside0.mk hz
      have K5 := Aside0.mk hk5
      simp only [List.map_cons, List.map_nil, putAll, Act.put, List.setIfInBounds_toArray, List.set_cons_zero, List.set_cons_succ]
      clear hz hk5
      go_wp2_with (fail)
      refine wp_left [4, 11, 12, 13, 14, 15, 16, 70, 71, 72, 73, 74, 75, 76, 77, 78, 79, 80, 81, 82, 83, 84, 85, 86, 87, 88, 89, 90, 91, 92, 93, 94, 95, 96, 97, 98, 99, 100, 101, 102, 103, 104, 105, 106, 107, 108, 109, 110, 111, 112, 113, 114, 115, 116, 117, 118, 119, 120, 121, 122, 123, 124, 125, 126, 127, 128, 129, 130, 131, 132, 133, 134, 135, 136, 137, 138, 139, 140, 141, 142, 143, 144, 145, 146, 147, 148, 149, 150, 151, 152, 153, 154, 155, 156, 157, 158] (fun j W' => Below w5.heap.size w5 W') ?contC (book_each K5 ⟨HZ.out.1⟩ ⟨HZ.out.2.2⟩ ⟨Kd.C_below H1.out K5.out.below⟩ HS HNS)
      case contC =>
        rintro jc w6 hb6
        have K6 := Aside0.mk (K5.out.low hb6)
        simp only [List.map_cons, List.map_nil, putAll, Act.put, List.setIfInBounds_toArray, List.set_cons_zero, List.set_cons_succ]
        clear hb6
        go_wp2_with (first
          | (go_at_call 17; go_loud (refine (K6.out.noSigned HZ.out.1 HZ.out.2.2 (by rw [List.length_take]; omega)).mono ?_; rintro e w7 ⟨A7, c7, rfl, l7⟩; have K7 := Aside0.mk (K6.out.low l7); clear l7))
          | (go_at_call 15; go_loud (refine (K7.out.noHas HZ.out.1).mono ?_; rintro e w8 ⟨rfl, l8⟩; have K8 := Aside0.mk (K7.out.low l8); clear l8)))
        go_ret
        exact ⟨rfl, K8.out.below⟩
end Go.Proofs.YtoigoiefnapokaaDoor.T
