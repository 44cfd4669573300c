/- The last loop of hearsaylaw18.KeysIdeal: the walk from its region 26 on. -/
import Derived.Test.YtoigoiefnapokaaDoorGKTa
import Derived.Test.YtoigoiefnapokaaDoorGKTb
import Derived.Test.YtoigoiefnapokaaDoorGKTc
import Derived.Test.YtoigoiefnapokaaDoorGKTd
set_option linter.unusedVariables false
set_option linter.unusedSimpArgs false
namespace Go.Proofs.YtoigoiefnapokaaDoor.T
open Go.RowKit Go.Maps Go.MuLone Go.Proofs.YtoigoiefnapokaaDoorW.PrintWords Go.Proofs.YtoigoiefnapokaaDoorW.PrintLast
set_option maxHeartbeats 32000000 in
set_option maxRecDepth 100000 in
theorem tail_wp {w W6 : World} {A : Option Addr} {cA cS cT cK ix : Nat} {sec : List Int} {bits : Int} {x y : RV} {ps aq : List Pr} {adS adT adK : Addr} {z1 z2 z5 z6 z7 z8 z9 z10 z12 z13 z14 z15 z16 z19 z20 z21 z23 z24 z25 z26 z27 z28 z29 z30 z31 z32 z33 z34 z35 z36 z37 z38 z39 z40 z41 z42 z43 z44 z45 z46 z47 z48 z49 z50 z51 z52 z53 z54 z55 z56 z57 z58 z59 z60 z61 z62 z63 z64 z65 z66 z67 z68 z69 z70 z71 z72 z73 z74 z75 z76 z77 z78 z79 z80 z81 z82 z83 z84 z85 z86 z87 z88 z89 z90 z91 z92 z93 z94 z95 z96 z97 z98 z99 z100 z101 z102 z103 z104 z105 z106 z107 z108 z109 z110 z111 z112 z113 z114 z115 z116 z117 z118 z119 z120 z121 z122 z123 z124 z125 z126 z127 z128 z129 z130 z131 z132 z133 z134 z135 z136 z137 z138 z139 z140 z141 z142 z143 z144 z145 z146 z147 z148 z149 z150 z151 z152 z153 z154 z155 z156 z157 z158 z159 z160 z161 z162 z163 z164 z165 z166 z167 z168 z169 z170 z171 z172 z173 z174 z175 z176 z177 z178 z179 z180 z181 z182 z183 z184 z185 z186 z187 z188 z189 z190 z191 z192 z193 z194 z195 z196 z197 z198 z199 z200 z201 z202 z203 z204 z205 z206 z207 z208 z209 z210 z211 z212 z213 z214 z215 z216 z217 z218 z219 z220 z221 z222 z223 z224 z225 z226 z227 z228 z229 z230 z231 z232 z233 z234 z235 z236 z237 z238 z239 z240 z241 z242 z243 z244 z245 z246 z247 z248 z249 z250 z251 z252 z253 z254 z255 z256 z257 z258 z259 z260 z261 z262 z263 z264 z265 z266 z267 z268 z269 z270 z271 z272 z273 z274 z275 z276 z277 z278 z279 z280 z281 z282 z283 z284 z285 z286 z287 z288 z289 z290 z291 z292 : Value} {Q : Exit → Act → World → Prop}
    (HA : Aside0 (ReadsInt w .u8 A sec.length sec)) (HCA : Aside0 (sec.length ≤ cA)) (HNA : Aside0 (sec.length ≤ 140737488355328)) (HBI : Aside0 (0 ≤ bits ∧ bits < 256)) (HF : Aside0 (LaidF w)) (HL : Aside0 (LaidR w)) (HY : Aside0 (y.b = x.b ∧ True))
    (HPL : Aside0 (0 < ps.length ∧ ps.length ≤ 31)) (HPI : Aside0 (∀ p ∈ ps, IsD p.2)) (HAQI : Aside0 (∀ p ∈ aq, IsD p.2)) (HIX : Aside0 (ix < 32)) (K5 : Aside0 (Keys y w W6 sec ps)) (CP5 : Aside0 (kP.C W6 (some adS) ps.length ps))
    (CS5 : Aside0 (kD.C W6 (some adT) (ps.map (sealf sec)).length (ps.map (sealf sec)))) (CK5 : Aside0 (kP.C W6 (some adK) aq.length aq))
    (hQ : ∀ (t : Array Value) (w' : World), t.getD 10 undef = .bool true → Below w.heap.size w w' → Q .ret ⟨t, []⟩ w') :
    Code.wp Tryd.prog tailCode Q ⟨#[.slice A sec.length cA, z1, z2, .int .i64 (ix : Int), .int .u8 bits, z5, z6, z7, z8, z9, z10, .pointer (some ⟨x.b, 0, none⟩), z12, z13, z14, z15, z16, .slice (some adS) ps.length cS, .slice (some adT) ps.length cT, z19, z20, z21, .slice (some adK) aq.length cK, z23, z24, z25, z26, z27, z28, z29, z30, z31, z32, z33, z34, z35, z36, z37, z38, z39, z40, z41, z42, z43, z44, z45, z46, z47, z48, z49, z50, z51, z52, z53, z54, z55, z56, z57, z58, z59, z60, z61, z62, z63, z64, z65, z66, z67, z68, z69, z70, z71, z72, z73, z74, z75, z76, z77, z78, z79, z80, z81, z82, z83, z84, z85, z86, z87, z88, z89, z90, z91, z92, z93, z94, z95, z96, z97, z98, z99, z100, z101, z102, z103, z104, z105, z106, z107, z108, z109, z110, z111, z112, z113, z114, z115, z116, z117, z118, z119, z120, z121, z122, z123, z124, z125, z126, z127, z128, z129, z130, z131, z132, z133, z134, z135, z136, z137, z138, z139, z140, z141, z142, z143, z144, z145, z146, z147, z148, z149, z150, z151, z152, z153, z154, z155, z156, z157, z158, z159, z160, z161, z162, z163, z164, z165, z166, z167, z168, z169, z170, z171, z172, z173, z174, z175, z176, z177, z178, z179, z180, z181, z182, z183, z184, z185, z186, z187, z188, z189, z190, z191, z192, z193, z194, z195, z196, z197, z198, z199, z200, z201, z202, z203, z204, z205, z206, z207, z208, z209, z210, z211, z212, z213, z214, z215, z216, z217, z218, z219, z220, z221, z222, z223, z224, z225, z226, z227, z228, z229, z230, z231, z232, z233, z234, z235, z236, z237, z238, z239, z240, z241, z242, z243, z244, z245, z246, z247, z248, z249, z250, z251, z252, z253, z254, z255, z256, z257, z258, z259, z260, z261, z262, z263, z264, z265, z266, z267, z268, z269, z270, z271, z272, z273, z274, z275, z276, z277, z278, z279, z280, z281, z282, z283, z284, z285, z286, z287, z288, z289, z290, z291, z292], []⟩ W6 := by
  dsimp only [tailCode, codeOf, codeNext, Tryd.f3, Option.getD]
  go_wp2_with (fail)
  go_loopg [23] aq.length (fun gg s23 wr => ∃ (i : Nat), Aside0 (i ≤ aq.length ∧ i ≤ 60 ∧ aq.length - i ≤ gg) ∧ s23 = .int .i64 (i : Int) ∧ Aside0 (Below W6.heap.size W6 wr))
  case atStart => exact ⟨0, ⟨by omega, by omega, by omega⟩, rfl, ⟨Below.refl _ _⟩⟩
  case round =>
    obtain ⟨i, HI, rfl, HB⟩ := hrel
    by_cases hc : i < aq.length ∧ i < 60
    · have HC := Aside0.mk hc
      have c0 : decide ((i : Int) < (aq.length : Int)) = true := decide_eq_true (by omega)
      have c1' : decide (i < aq.length) = true := decide_eq_true hc.1
      have c2' : decide ((i : Int) < 60) = true := decide_eq_true (by omega)
      have c3' : decide (i < 60) = true := decide_eq_true hc.2
      obtain ⟨q, hq⟩ : ∃ q, aq[i]? = some q := ⟨_, List.getElem?_eq_getElem hc.1⟩
      have HQ := Aside0.mk hq
      have HQD := Aside0.mk (HAQI.out q (List.mem_of_getElem? hq))
      have HLTQ := Aside0.mk hc.1
      have p0 : (0 : Int) ≤ (i : Int) := by omega
      have en : (i : Int) + 1 = ((i + 1 : Nat) : Int) := by omega
      have mn : i + 1 ≤ 9223372036854775807 := by omega
      obtain ⟨hwn, hvn⟩ := idx_at en mn
      clear en mn hc hq
      go_wp2_with (fail)
      go_loopg [24, 25] ps.length (fun gg s24 s25 wr => ∃ (k : Nat) (b : Bool), Aside0 (k ≤ ps.length ∧ ps.length - k ≤ gg) ∧ s24 = .bool b ∧ s25 = .int .i64 (k : Int) ∧ Aside0 (b = true ↔ ∃ p ∈ ps.take k, nm p.1 = nm q.1 ∧ p.2 = q.2) ∧ Aside0 (Below W6.heap.size W6 wr))
      case atStart => exact ⟨0, false, ⟨by omega, by omega⟩, rfl, rfl, ⟨by simp⟩, HB⟩
      case round =>
        clear HB
        obtain ⟨k, b, HK, rfl, rfl, HWAS, HB⟩ := hrel
        by_cases hk : k < ps.length
        · have d0' : decide ((k : Int) < (ps.length : Int)) = true := decide_eq_true (by omega)
          have d1' : decide (k < ps.length) = true := decide_eq_true hk
          have HLTP := Aside0.mk hk
          obtain ⟨p, hp⟩ : ∃ p, ps[k]? = some p := ⟨_, List.getElem?_eq_getElem hk⟩
          have HP := Aside0.mk hp
          have HPM := Aside0.mk (List.mem_of_getElem? hp)
          have HPD := Aside0.mk (HPI.out p HPM.out)
          obtain ⟨sl, hsl⟩ : ∃ v, sealf sec p = v := ⟨_, rfl⟩
          have HSLE := Aside0.mk hsl
          have HSI := Aside0.mk (show IsD sl by rw [← hsl]; exact seal_is _ _)
          have HSG := Aside0.mk (show (ps.map (sealf sec))[k]? = some sl by rw [List.getElem?_map, hp]; exact congrArg some hsl)
          have pk0 : (0 : Int) ≤ (k : Int) := by omega
          have enk : (k : Int) + 1 = ((k + 1 : Nat) : Int) := by omega
          have mnk : k + 1 ≤ 9223372036854775807 := by have := HPL.out; omega
          obtain ⟨hwnk, hvnk⟩ := idx_at enk mnk
          clear enk mnk hk hp hsl
          go_wp2_with (fail)
          rename_i K33 a33
          obtain ⟨same, hsame⟩ : ∃ b : Bool, decide (nm p.1 = nm q.1 ∧ p.2 = q.2) = b := ⟨_, rfl⟩
          have HSAME := Aside0.mk hsame
          clear hsame
          refine wp_join [26, 157, 158, 159, 160, 161, 162, 163, 164, 165, 166, 167, 168, 169, 170, 171, 172, 173, 174, 175, 176, 177, 178, 179, 180, 181, 182] (fun j W => j 26 = .bool same ∧ Below W6.heap.size W6 W) ?cont33 ?ways33
          case ways33 =>
            exact w33 CP5 CK5 HP HPD HLTP HQ HQD HLTQ HSAME HB
          case cont33 =>
            rintro j33 W7 ⟨h26, hb7⟩
            have HB7 := Aside0.mk hb7
            show K33 _ _
            refine a33 _ _ ?_
            simp only [List.map_cons, List.map_nil, putAll, Act.put, List.setIfInBounds_toArray, List.set_cons_zero, List.set_cons_succ]
            rw [h26]
            clear h26 hb7 HB a33
            refine wp_seq (wp_join [24, 183, 184, 185, 186] (fun j W => W = W7 ∧ j 24 = .bool (b || same)) ?cont34 ?ways34)
            case ways34 =>
              cases b
              · go_wp2
                first | (simp only [List.map_cons, List.map_nil, putAll, Act.put, List.setIfInBounds_toArray, List.set_cons_zero, List.set_cons_succ]; done) | exact ⟨by simp only [List.map_cons, List.map_nil, putAll, Act.put, List.setIfInBounds_toArray, List.set_cons_zero, List.set_cons_succ], rfl⟩ | exact ⟨by simp only [List.map_cons, List.map_nil, putAll, Act.put, List.setIfInBounds_toArray, List.set_cons_zero, List.set_cons_succ], by simp⟩
              · go_wp2
                first | (simp only [List.map_cons, List.map_nil, putAll, Act.put, List.setIfInBounds_toArray, List.set_cons_zero, List.set_cons_succ]; done) | exact ⟨by simp only [List.map_cons, List.map_nil, putAll, Act.put, List.setIfInBounds_toArray, List.set_cons_zero, List.set_cons_succ], rfl⟩ | exact ⟨by simp only [List.map_cons, List.map_nil, putAll, Act.put, List.setIfInBounds_toArray, List.set_cons_zero, List.set_cons_succ], by simp⟩
            case cont34 =>
              rintro j34 W7' ⟨hW7, h24⟩
              subst hW7
              show Code.wp _ _ _ _ _
              simp only [List.map_cons, List.map_nil, putAll, Act.put, List.setIfInBounds_toArray, List.set_cons_zero, List.set_cons_succ]
              rw [h24]
              clear h24
              obtain ⟨yes, hyes⟩ : ∃ b : Bool, decide (sf sec ps (nm q.1, q.2) = some sl) = b := ⟨_, rfl⟩
              have HYES := Aside0.mk hyes
              clear hyes
              refine wp_seq (wp_join [27, 187, 188, 189, 190, 191, 192, 193, 194, 195, 196, 197, 198, 199, 200, 201, 202, 203] (fun j W => j 27 = .bool yes ∧ Below W6.heap.size W6 W) ?cont35 ?ways35)
              case ways35 =>
                exact w35 HY K5 CS5 CK5 HLTP HQ HQD HLTQ HSG HSI HYES HB7
              case cont35 =>
                rintro j35 W8 ⟨h27, hb8⟩
                have HB8 := Aside0.mk hb8
                show Code.wp _ _ _ _ _
                simp only [List.map_cons, List.map_nil, putAll, Act.put, List.setIfInBounds_toArray, List.set_cons_zero, List.set_cons_succ]
                rw [h27]
                clear h27 hb8 HB7
                have HREL := Aside0.mk (show same = true → yes = true by intro h; rw [← HSAME.out] at h; have h2 := of_decide_eq_true h; rw [← HYES.out]; rw [← h2.1, ← h2.2, sf_mem sec HPM.out, HSLE.out]; exact decide_eq_true rfl)
                refine wp_seq (wp_join [204, 205, 206, 207, 208, 209, 210, 211, 212, 213, 214, 215, 216, 217, 218, 219, 220, 221, 222, 223, 224, 225, 226, 227, 228, 229] (fun j W => Below W6.heap.size W6 W) ?cont36 ?ways36)
                case ways36 =>
                    exact w36 HPL HPI CP5 CS5 CK5 HLTP HQ HQD HLTQ HSG HSI HYES HREL HB8
                case cont36 =>
                  rintro j36 W9 hb9
                  have HB9 := Aside0.mk hb9
                  show Code.wp _ _ _ _ _
                  simp only [List.map_cons, List.map_nil, putAll, Act.put, List.setIfInBounds_toArray, List.set_cons_zero, List.set_cons_succ]
                  clear hb9 HB8 HREL
                  refine wp_seq (wp_join [28, 230, 231, 232, 233] (fun j W => Aside0 (∃ b28 : Nat, j 28 = .pointer (some ⟨b28, 0, none⟩) ∧ W.heap[b28]? = some (.cells (nums .u8 sl).toArray 27 (0, 0)) ∧ W9.heap.size ≤ b28 ∧ Below W9.heap.size W9 W)) ?cont38 ?ways38)
                  case ways38 =>
                    have HDs := Aside0.mk (digest_facts HSI.out.1)
                    go_wp2_with (first
                      | ((with_reducible refine gate_dst (N := 232) rfl ?_); go_loud (refine Kd.event_run rfl (idxD_run (.tmp 230) (.tmp 231) rfl adT _ cT k rfl rfl (by first | exact HLTP.out | (rw [List.length_map]; exact HLTP.out))) ?_))
                      | ((with_reducible refine gate_dst (N := 233) rfl ?_); go_loud (refine Kd.event_run rfl (loadD_run (.tmp 232) rfl _ rfl sl HSI.out.1 (dig_at (Kd.C_below CS5.out HB9.out) HSG.out).1) ?_))
                      | ((with_reducible refine gate_dst (N := 28) rfl ?_); refine box_event ?hg (N := 28) ?hd (cs := (nums .u8 zeroD).toArray) (t := 27) ?hr ?_; (case hd => rfl); (case hg => rfl); (case hr => first | (go_simp; done) | (go_simp; rfl)); intro b28 hb28 w900 hbox hbl; have B28 := Aside0.mk hbox; have LB28 := Aside0.mk hbl; have G28 := Aside0.mk (show W9.heap.size ≤ b28 by omega); clear hb28 hbox hbl)
                      | (refine put_row rfl 27 (.tmp 28) (.tmp 233) rfl b28 (nums .u8 sl).toArray rfl rfl 27 _ B28.out HDs.out.1 (by rw [HDs.out.2.1]; rfl) HDs.out.2.2 ?_))
                    have hb28 := setRow_heap w900 b28 _ (nums .u8 sl).toArray _ _ B28.out
                    have hl28 := below_row LB28.out G28.out (nums .u8 sl).toArray
                    generalize w900.setRow b28 (nums .u8 sl).toArray = w901 at hb28 hl28 ⊢
                    first | exact ⟨by (simp only [List.map_cons, List.map_nil, putAll, Act.put, List.setIfInBounds_toArray, List.set_cons_zero, List.set_cons_succ]; done), ⟨hb28, G28.out, hl28⟩⟩ | exact ⟨by (simp only [List.map_cons, List.map_nil, putAll, Act.put, List.setIfInBounds_toArray, List.set_cons_zero, List.set_cons_succ]; rfl), ⟨hb28, G28.out, hl28⟩⟩ | exact ⟨by (simp only [List.map_cons, List.map_nil, putAll, Act.put, List.setIfInBounds_toArray, List.set_cons_zero, List.set_cons_succ]; done), ⟨b28, rfl, hb28, G28.out, hl28⟩⟩ | exact ⟨by (simp only [List.map_cons, List.map_nil, putAll, Act.put, List.setIfInBounds_toArray, List.set_cons_zero, List.set_cons_succ]; rfl), ⟨b28, rfl, hb28, G28.out, hl28⟩⟩ | exact ⟨rfl, by (simp only [List.map_cons, List.map_nil, putAll, Act.put, List.setIfInBounds_toArray, List.set_cons_zero, List.set_cons_succ]; rfl), ⟨b28, rfl, hb28, G28.out, hl28⟩⟩
                  case cont38 =>
                    rintro j38 W10 hF10
                    obtain ⟨b28, hj28, hb28, hg28, hl28⟩ := hF10.out
                    have B28 := Aside0.mk hb28
                    have G28 := Aside0.mk hg28
                    have L28 := Aside0.mk hl28
                    show Code.wp _ _ _ _ _
                    simp only [List.map_cons, List.map_nil, putAll, Act.put, List.setIfInBounds_toArray, List.set_cons_zero, List.set_cons_succ]
                    rw [hj28]
                    clear hF10 hj28 hb28 hg28 hl28
                    obtain ⟨bad, hbad⟩ : ∃ l, sl.set ix (Go.bits .xor .u8 (sl.getD ix 0) bits) = l := ⟨_, rfl⟩
                    have HBAD := Aside0.mk hbad
                    have HBI2 := Aside0.mk (show IsD bad ∧ (bits ≠ 0 → sl ≠ bad) by rw [← hbad]; exact bad_is HSI.out HIX.out HBI.out)
                    clear hbad
                    refine wp_seq (wp_join [234, 235, 236, 237, 238, 239, 240] (fun j W => Aside0 (W.heap[b28]? = some (.cells (nums .u8 bad).toArray 27 (0, 0)) ∧ Below W9.heap.size W9 W)) ?cont39 ?ways39)
                    case ways39 =>
                      have ix0 : (0 : Int) ≤ (ix : Int) := by omega
                      have ix1 : (ix : Int) < 32 := by have := HIX.out; omega
                      have hc39 := row_cell B28.out ix (by rw [HSI.out.1]; exact HIX.out)
                      have hz39 := blk_frozen B28.out ix
                      go_wp2
                      have h39 := row_put B28.out ix (Go.bits .xor .u8 (sl.getD ix 0) bits)
                      rw [HBAD.out] at h39
                      have l39 := L28.out.setCell (p := ⟨b28, ix, none⟩) G28.out (.int .u8 (Go.bits .xor .u8 (sl.getD ix 0) bits))
                      first | exact ⟨by (simp only [List.map_cons, List.map_nil, putAll, Act.put, List.setIfInBounds_toArray, List.set_cons_zero, List.set_cons_succ]; done), ⟨h39, l39⟩⟩ | exact ⟨by (simp only [List.map_cons, List.map_nil, putAll, Act.put, List.setIfInBounds_toArray, List.set_cons_zero, List.set_cons_succ]; rfl), ⟨h39, l39⟩⟩ | exact ⟨rfl, by (simp only [List.map_cons, List.map_nil, putAll, Act.put, List.setIfInBounds_toArray, List.set_cons_zero, List.set_cons_succ]; rfl), ⟨h39, l39⟩⟩
                    case cont39 =>
                      rintro j39 W11 hF11
                      obtain ⟨hb28, hl28⟩ := hF11.out
                      have B29 := Aside0.mk hb28
                      have HB11 := Aside0.mk (below_step HB9.out hl28)
                      show Code.wp _ _ _ _ _
                      simp only [List.map_cons, List.map_nil, putAll, Act.put, List.setIfInBounds_toArray, List.set_cons_zero, List.set_cons_succ]
                      clear hF11 hb28 hl28 B28 L28 G28 HB9
                      refine wp_join [241, 242, 243, 244, 245, 246, 247, 248, 249, 250, 251, 252, 253, 254, 255, 256, 257, 258, 259, 260, 261] (fun j W => Below W6.heap.size W6 W) ?cont40 ?ways40
                      case ways40 =>
                        exact w40 HY K5 CK5 HPM HQ HQD HLTQ HSLE HSAME HBI2 HB11 B29
                      case cont40 =>
                        rintro j40 W12 hb12
                        have HB12 := Aside0.mk hb12
                        simp only [List.map_cons, List.map_nil, putAll, Act.put, List.setIfInBounds_toArray, List.set_cons_zero, List.set_cons_succ]
                        clear hb12 HB11
                        go_wp2
                        go_roundg (ps.length - (k + 1))
                        case measure => clear hwn hvn hwnk hvnk; have := HK.out; have := HLTP.out; omega
                        case rel =>
                          refine ⟨k + 1, (b || same), ⟨by clear hwn hvn hwnk hvnk; have := HLTP.out; omega, by clear hwn hvn hwnk hvnk; exact Nat.le_refl _⟩, rfl, by first | (with_reducible rfl) | (simp [hwnk]; done) | go_num, ⟨was_step HP.out HWAS.out HSAME.out⟩, HB12⟩
        · have d0' : decide ((k : Int) < (ps.length : Int)) = false := decide_eq_false (by omega)
          have d1' : decide (k < ps.length) = false := decide_eq_false hk
          obtain rfl : k = ps.length := by have := HK.out; omega
          obtain ⟨kq, hkq⟩ : ∃ v, macf sec (bytesOf (nm q.1)) = v := ⟨_, rfl⟩
          have HKQ := Aside0.mk hkq
          have HKQI := Aside0.mk (show IsD kq by rw [← hkq]; exact mac_is _ _)
          have HDkq := Aside0.mk (digest_facts HKQI.out.1)
          obtain ⟨sq, hsq⟩ : ∃ v, macf kq q.2 = v := ⟨_, rfl⟩
          have HSQ := Aside0.mk hsq
          have HSQI := Aside0.mk (show IsD sq by rw [← hsq]; exact mac_is _ _)
          have HWA := Aside0.mk (was_all (sec := sec) (show sealf sec q = sq by unfold sealf; rw [hkq, hsq]) HWAS.out)
          clear hk hkq hsq
          have kb := fun W => print_bytes (P := Tryd.prog) 9 22 5 Tryd.underlying9 Tryd.underlying22 Tryd.underlying5 (nm q.1) W
          go_wp2_with (first
            | ((with_reducible refine gate_dst (N := 265) rfl ?_); go_loud (refine Kd.event_run rfl (idxP_run (.tmp 263) (.tmp 264) rfl adK aq.length cK i rfl rfl HLTQ.out) ?_))
            | ((with_reducible refine gate_dst (N := 266) rfl ?_); go_loud (refine Kd.event_run rfl (fld0_run (.tmp 265) rfl _ rfl) ?_))
            | ((with_reducible refine gate_dst (N := 267) rfl ?_); go_loud (refine Kd.event_run rfl (loadI_run (.tmp 266) rfl _ rfl q.1 (pair_at (Kd.C_below CK5.out HB.out) HQ.out).1) ?_))
            | (go_at_call 9; go_loud ((with_reducible refine (name_calls q.1 _).mono ?_); rintro e w950 ⟨rfl, l950⟩; have HB950 := Aside0.mk (below_step HB.out l950); clear l950))
            | (go_at_call 8; go_loud (have hW := bytes_below (K5.out.low HB950.out).below (K5.out.low HB950.out).below.size 5 (nm q.1); refine (mac_callsN (Lib.bytesWorld w950 5 (nm q.1)) A (some ⟨w950.heap.size, 0, none⟩) cA _ sec.length (nm q.1).size sec (bytesOf (nm q.1)) (HF.out.up hW) (HL.out.up hW) (HA.out.below hW) HCA.out (by have := HNA.out; omega) (by rw [bytesOf_length]; exact bytes_reads w950 _ _ (by have := (nm_ok q.1).2; omega)) (by rw [bytesOf_length]; exact grownCap_ge _ _ _ _) (by rw [bytesOf_length]; have := (nm_ok q.1).2; omega) rfl (bytesOf_length _)).mono ?_; clear hW; rintro e w951 ⟨rfl, l951⟩; rw [HKQ.out]; have HB951 := Aside0.mk (below_step (below_step HB950.out (bytes_below (Below.refl w950.heap.size w950) (Nat.le_refl _) 5 (nm q.1))) l951); clear l951))
            | ((with_reducible refine gate_dst (N := 29) rfl ?_); refine box_event ?hg (N := 29) ?hd (cs := (nums .u8 zeroD).toArray) (t := 27) ?hr ?_; (case hd => rfl); (case hg => rfl); (case hr => first | (go_simp; done) | (go_simp; rfl)); intro b29 hb29 w952 hbox hbl; have B29 := Aside0.mk hbox; have HB952 := Aside0.mk (below_step HB951.out hbl); have G29 := Aside0.mk (show W6.heap.size ≤ b29 by have := HB951.out.size; omega); clear hb29 hbox hbl)
            | (refine put_row rfl 27 (.tmp 29) (.tmp 270) rfl b29 (nums .u8 kq).toArray rfl rfl 27 _ B29.out HDkq.out.1 (by rw [HDkq.out.2.1]; rfl) HDkq.out.2.2 ?_; have B295 := Aside0.mk (setRow_heap _ b29 _ (nums .u8 kq).toArray _ _ B29.out); have HB953 := Aside0.mk (below_row HB952.out G29.out (nums .u8 kq).toArray)))
          generalize w952.setRow b29 (nums .u8 kq).toArray = w953 at B295 HB953 ⊢
          clear kb B29 HB952 HB951 HB950 HB
          refine wp_join [271, 272, 273, 274, 275, 276, 277, 278, 279, 280, 281, 282, 283, 284, 285, 286, 287, 288, 289, 290, 291, 292] (fun j W => j 292 = .bool false ∧ Below W6.heap.size W6 W) ?cont43 ?ways43
          case ways43 =>
            exact w43 HF HL HY K5 CK5 HQ HQD HLTQ HKQI HSQ HSQI HWA HB953 B295
          case cont43 =>
            rintro j43 W13 ⟨h292, hbf⟩
            have HBF := Aside0.mk hbf
            simp only [List.map_cons, List.map_nil, putAll, Act.put, List.setIfInBounds_toArray, List.set_cons_zero, List.set_cons_succ]
            rw [h292]
            clear h292 hbf HB953 B295
            go_wp2
            go_roundg (aq.length - (i + 1))
            case measure => clear hwn hvn; have := HI.out; have := HLTQ.out; omega
            case rel => exact ⟨i + 1, ⟨by clear hwn hvn; have := HLTQ.out; omega, by clear hwn hvn; have := HC.out; omega, by clear hwn hvn; exact Nat.le_refl _⟩, by first | (with_reducible rfl) | (simp [hwn]; done) | go_num, HBF⟩
    · have hor : ¬ i < aq.length ∨ (i < aq.length ∧ ¬ i < 60) := by omega
      clear hc
      rcases hor with h | ⟨h, h'⟩
      · have c0 : decide ((i : Int) < (aq.length : Int)) = false := decide_eq_false (by omega)
        have c1' : decide (i < aq.length) = false := decide_eq_false h
        clear h
        go_wp2
        try simp only [Exit.inBlock, Exit.then]
        exact hQ _ _ rfl (K5.out.low HB.out).below
      · have c0 : decide ((i : Int) < (aq.length : Int)) = true := decide_eq_true (by omega)
        have c1' : decide (i < aq.length) = true := decide_eq_true h
        have c2' : decide ((i : Int) < 60) = false := decide_eq_false (by omega)
        have c3' : decide (i < 60) = false := decide_eq_false h'
        clear h h'
        go_wp2
        try simp only [Exit.inBlock, Exit.then]
        exact hQ _ _ rfl (K5.out.low HB.out).below
end Go.Proofs.YtoigoiefnapokaaDoor.T
