/- Three rings beside one another. -/
import Derived.Test.YtoigoiefnapokaaDoorGKSigned
import Derived.Test.YtoigoiefnapokaaDoorGKJoin
set_option linter.unusedVariables false
set_option linter.unusedSimpArgs false
namespace Go.Proofs.YtoigoiefnapokaaDoor.T
open Go.RowKit Go.Maps Go.MuLone Go.Proofs.YtoigoiefnapokaaDoorW.PrintWords Go.Proofs.YtoigoiefnapokaaDoorW.PrintLast
theorem reads_ne {w : World} {ad : Addr} {n : Nat} {b : List Int} (h : ReadsInt w .u8 (some ad) n b) (hn : 0 < n) {P : Program} {k : TypeId} {R : Value → Option (DataW Value × List MemPlace)} {g m : Nat} {D : DataW Value} (hm : w.ownsMap P k R g m D) : ad.block ≠ g := by
  intro e
  obtain ⟨h1, _, h3⟩ := h
  obtain ⟨ad', had, hc⟩ := h3 hn
  cases had
  have h0 := hc 0 (by omega)
  obtain ⟨es, c, he, _⟩ := hm
  have e2 : ad.add 0 = ad := by simp [Addr.add]
  rw [e2] at h0
  unfold World.cell? at h0
  rw [e, he] at h0
  simp at h0
section
variable {x y z : RV} {w W W' : World} {sec oth : List Int} {ps pa pb pc : List Pr} {n : Nat}
theorem Keys.other (h : Keys y w W sec ps) {g m : Nat} {D : DataW Value} (hk : KeepBut W W' g none) (hm : W.ownsMap Tryd.prog 69 RD g m D) (h1 : y.bk ≠ g) (h2 : y.bs ≠ g) (hb : Below w.heap.size w W') : Keys y w W' sec ps :=
  ⟨h.at_.keep hk (map_cells hm h.at_.blk).symm h1 h2 (fun ad had hp => reads_ne (had ▸ h.at_.reads) hp hm), h.keys, h.signed, h.ns, h.sec, hb⟩
theorem enrolled_keys (w W : World) (hB : Below w.heap.size w W) (A : Option Addr) (c : Nat) (b : List Int) (hR : ReadsInt w .u8 A b.length b) (hn : b.length ≤ 140737488355328) (hF : LaidF w) (hL : LaidR w) :
    Calls Tryd.prog 7 #[.slice A b.length c] W fun e w' => ∃ x : RV, e = .returned (.pointer (some ⟨x.b, 0, none⟩)) ∧ Keys x w w' b [] ∧ OnlyP x.Ds ∧ W.heap.size ≤ x.bk ∧ W.heap.size ≤ x.bs ∧ Below W.heap.size W w' := by
  refine (enrolled_calls W A c b (hR.below hB) hn (hF.up hB) (hL.up hB)).mono ?_
  rintro e w' ⟨x, rfl, hx, hs, hk, hns, hds, hb⟩
  refine ⟨x, rfl, ⟨⟨hx.blk, hx.reads, hx.far, hx.cap, hx.keys, hx.signed, ⟨Nat.le_trans hB.size hx.base.1, Nat.le_trans hB.size hx.base.2.1, Nat.le_trans hB.size hx.base.2.2⟩, hx.ne⟩, hk, by rw [hds, sf_nil]; exact says_nil, hns, hs, below_step hB hb⟩, by rw [hds]; exact onlyP_nil, hx.base.2.1, hx.base.2.2, hb⟩
theorem keys_count0 (h : Keys x w W sec []) (hO : OnlyP x.Ds) (n : Int) :
    Calls Tryd.prog 17 #[.pointer (some ⟨x.b, 0, none⟩), .string (nm n)] W fun e w' => ∃ (A : Option Addr) (c : Nat), e = .returned (.slice A 0 c) ∧ Below W.heap.size W w' := by
  refine (slist_calls W x _ h.at_ hO (nm n) (nm_okS n) (by rw [h.ns]; decide)).mono ?_
  rintro e w' ⟨A, c, ds, rfl, hnd, hm, _, _, hb⟩
  have e0 : ds = [] := by
    refine List.eq_nil_iff_forall_not_mem.2 (fun d hd => ?_)
    have h1 := (hm d).1 hd
    rw [h.signed.has (nm n, d.1) ⟨nm_okS n, d.2⟩, sf_nil] at h1
    cases h1
  subst e0
  exact ⟨A, c, rfl, hb⟩
theorem keys_count1 {n : Int} {d : List Int} (h : Keys x w W sec [(n, d)]) (hd : IsD d) (hO : OnlyP x.Ds) :
    Calls Tryd.prog 17 #[.pointer (some ⟨x.b, 0, none⟩), .string (nm n)] W fun e w' => ∃ (A : Option Addr) (c : Nat), e = .returned (.slice A 1 c) ∧ Below W.heap.size W w' := by
  refine (slist_calls W x _ h.at_ hO (nm n) (nm_okS n) (by rw [h.ns, List.length_singleton]; omega)).mono ?_
  rintro e w' ⟨A, c, ds, rfl, hnd, hm, _, _, hb⟩
  have hi : ∀ f : Dg, f ∈ ds ↔ f = ⟨d, hd⟩ := by
    intro f
    rw [hm f, h.signed.has (nm n, f.1) ⟨nm_okS n, f.2⟩]
    unfold sf
    constructor
    · intro h1
      split at h1
      · rename_i hx
        obtain ⟨p, hp, e⟩ := hx
        rw [List.mem_singleton.1 hp] at e
        exact Subtype.ext (congrArg Prod.snd e)
      · cases h1
    · rintro rfl
      rw [if_pos ⟨(n, d), List.mem_singleton.2 rfl, rfl⟩]
      rfl
  have e1 : ds.length = 1 := by
    match ds, hnd, hi with
    | [], _, hi => exact absurd ((hi ⟨d, hd⟩).2 rfl) (by simp)
    | [a], _, _ => rfl
    | a :: b :: r, hnd, hi =>
      have ha := (hi a).1 (by simp)
      have hb := (hi b).1 (by simp)
      rw [ha, hb] at hnd
      simp at hnd
  rw [e1]
  exact ⟨A, c, rfl, hb⟩
structure Three (n : Nat) (x y z : RV) (w W : World) (sec oth : List Int) (pa pb pc : List Pr) : Prop where
  kx : Keys x w W sec pa
  ky : Keys y w W sec pb
  kz : Keys z w W oth pc
  ox : OnlyP x.Ds
  oy : OnlyP y.Ds
  un : x.under n ∧ y.under n ∧ z.under n ∧ w.heap.size ≤ n
  xy : y.bk ≠ x.bs ∧ y.bs ≠ x.bs ∧ x.bk ≠ y.bs
  xz : z.bk ≠ x.bs ∧ z.bs ≠ x.bs ∧ x.bk ≠ z.bs
  yz : z.bk ≠ y.bs ∧ z.bs ≠ y.bs ∧ y.bk ≠ z.bs
theorem Three.low (h : Three n x y z w W sec oth pa pb pc) (hb : Below W.heap.size W W') : Three n x y z w W' sec oth pa pb pc := ⟨h.kx.low hb, h.ky.low hb, h.kz.low hb, h.ox, h.oy, h.un, h.xy, h.xz, h.yz⟩
theorem Three.drew (h : Three n x y z w W sec oth pa pb pc) : Three n x y z w W.drew sec oth pa pb pc := ⟨h.kx.drew, h.ky.drew, h.kz.drew, h.ox, h.oy, h.un, h.xy, h.xz, h.yz⟩
theorem Three.row (h : Three n x y z w W sec oth pa pb pc) {b : Nat} (hn : n ≤ b) (cs : Array Value) : Three n x y z w (W.setRow b cs) sec oth pa pb pc :=
  ⟨h.kx.row h.un.1 hn (Nat.le_trans h.un.2.2.2 hn) cs, h.ky.row h.un.2.1 hn (Nat.le_trans h.un.2.2.2 hn) cs, h.kz.row h.un.2.2.1 hn (Nat.le_trans h.un.2.2.2 hn) cs, h.ox, h.oy, h.un, h.xy, h.xz, h.yz⟩
theorem Three.signX (h : Three n x y z w W sec oth pa pb pc) {b : Nat} (hb : x.b = b) (hF : LaidF w) (hL : LaidR w) (m : Int) (d v : List Int) (hv : sealf sec (m, d) = v) (hd : IsD d) (hl : pa.length < 100000) :
    Calls Tryd.prog 11 #[.pointer (some ⟨b, 0, none⟩), .string (nm m), .agg (nums .u8 d).toArray] W fun e w' => e = .returned (.tuple #[.agg (nums .u8 v).toArray, .int .i64 0]) ∧ KeepBut W w' x.bs none ∧ Three n (x.signedWith (nm m) d v) y z w w' sec oth (pa ++ [(m, d)]) pb pc := by
  refine (h.kx.signB hb hF hL m d v hv hd hl).mono ?_
  rintro e w' ⟨rfl, hk, hx⟩
  exact ⟨rfl, hk, hx, h.ky.other hk h.kx.at_.signed h.xy.1 h.xy.2.1 hx.below, h.kz.other hk h.kx.at_.signed h.xz.1 h.xz.2.1 hx.below, h.ox.put ⟨nm_okS m, hd⟩ h.kx.at_.signed.isMap _, h.oy, h.un, h.xy, h.xz, h.yz⟩
theorem Three.signY (h : Three n x y z w W sec oth pa pb pc) {b : Nat} (hb : y.b = b) (hF : LaidF w) (hL : LaidR w) (m : Int) (d v : List Int) (hv : sealf sec (m, d) = v) (hd : IsD d) (hl : pb.length < 100000) :
    Calls Tryd.prog 11 #[.pointer (some ⟨b, 0, none⟩), .string (nm m), .agg (nums .u8 d).toArray] W fun e w' => e = .returned (.tuple #[.agg (nums .u8 v).toArray, .int .i64 0]) ∧ KeepBut W w' y.bs none ∧ Three n x (y.signedWith (nm m) d v) z w w' sec oth pa (pb ++ [(m, d)]) pc := by
  refine (h.ky.signB hb hF hL m d v hv hd hl).mono ?_
  rintro e w' ⟨rfl, hk, hx⟩
  exact ⟨rfl, hk, h.kx.other hk h.ky.at_.signed h.xy.2.2 h.xy.2.1.symm hx.below, hx, h.kz.other hk h.ky.at_.signed h.yz.1 h.yz.2.1 hx.below, h.ox, h.oy.put ⟨nm_okS m, hd⟩ h.ky.at_.signed.isMap _, h.un, h.xy, h.xz, h.yz⟩
theorem Three.signZ (h : Three n x y z w W sec oth pa pb pc) {b : Nat} (hb : z.b = b) (hF : LaidF w) (hL : LaidR w) (m : Int) (d v : List Int) (hv : sealf oth (m, d) = v) (hd : IsD d) (hl : pc.length < 100000) :
    Calls Tryd.prog 11 #[.pointer (some ⟨b, 0, none⟩), .string (nm m), .agg (nums .u8 d).toArray] W fun e w' => e = .returned (.tuple #[.agg (nums .u8 v).toArray, .int .i64 0]) ∧ KeepBut W w' z.bs none ∧ Three n x y (z.signedWith (nm m) d v) w w' sec oth pa pb (pc ++ [(m, d)]) := by
  refine (h.kz.signB hb hF hL m d v hv hd hl).mono ?_
  rintro e w' ⟨rfl, hk, hx⟩
  exact ⟨rfl, hk, h.kx.other hk h.kz.at_.signed h.xz.2.2 h.xz.2.1.symm hx.below, h.ky.other hk h.kz.at_.signed h.yz.2.2 h.yz.2.1.symm hx.below, hx, h.ox, h.oy, h.un, h.xy, h.xz, h.yz⟩
end
end Go.Proofs.YtoigoiefnapokaaDoor.T
