/- Regions of hearsaylaw18.KeysIdeal's last loop: what they leave. -/
import Derived.Test.YtoigoiefnapokaaDoorGKCode
set_option linter.unusedVariables false
set_option linter.unusedSimpArgs false
namespace Go.Proofs.YtoigoiefnapokaaDoor.T
open Go.RowKit Go.Maps Go.MuLone Go.Proofs.YtoigoiefnapokaaDoorW.PrintWords Go.Proofs.YtoigoiefnapokaaDoorW.PrintLast
set_option maxHeartbeats 32000000 in
set_option maxRecDepth 100000 in
theorem w33 {W6 wr : World} {cS cK i k : Nat} {ps aq : List Pr} {p q : Pr} {adS adK : Addr} {same : Bool} {z0 z1 z2 z3 z4 z5 z6 z7 z8 z9 z10 z11 z12 z13 z14 z15 z16 z18 z19 z20 z21 z24 z26 z27 z28 z29 z30 z31 z32 z33 z34 z35 z36 z37 z38 z39 z40 z41 z42 z43 z44 z45 z46 z47 z48 z49 z50 z51 z52 z53 z54 z55 z56 z57 z58 z59 z60 z61 z62 z63 z64 z65 z66 z67 z68 z69 z70 z71 z72 z73 z74 z75 z76 z77 z78 z79 z80 z81 z82 z83 z84 z85 z86 z87 z88 z89 z90 z91 z92 z93 z94 z95 z96 z97 z98 z99 z100 z101 z102 z103 z104 z105 z106 z107 z108 z109 z110 z111 z112 z113 z114 z115 z116 z117 z118 z119 z120 z121 z122 z123 z124 z125 z126 z127 z128 z129 z130 z131 z132 z133 z134 z135 z136 z137 z138 z139 z140 z141 z142 z143 z144 z145 z146 z147 z148 z149 z150 z151 z152 z153 z154 z155 z156 z157 z158 z159 z160 z161 z162 z163 z164 z165 z166 z167 z168 z169 z170 z171 z172 z173 z174 z175 z176 z177 z178 z179 z180 z181 z182 z183 z184 z185 z186 z187 z188 z189 z190 z191 z192 z193 z194 z195 z196 z197 z198 z199 z200 z201 z202 z203 z204 z205 z206 z207 z208 z209 z210 z211 z212 z213 z214 z215 z216 z217 z218 z219 z220 z221 z222 z223 z224 z225 z226 z227 z228 z229 z230 z231 z232 z233 z234 z235 z236 z237 z238 z239 z240 z241 z242 z243 z244 z245 z246 z247 z248 z249 z250 z251 z252 z253 z254 z255 z256 z257 z258 z259 z260 z261 z262 z263 z264 z265 z266 z267 z268 z269 z270 z271 z272 z273 z274 z275 z276 z277 z278 z279 z280 z281 z282 z283 z284 z285 z286 z287 z288 z289 z290 z291 z292 : Value}
    (CP5 : Aside0 (kP.C W6 (some adS) ps.length ps)) (CK5 : Aside0 (kP.C W6 (some adK) aq.length aq)) (HP : Aside0 (ps[k]? = some p)) (HPD : Aside0 (IsD p.2)) (HLTP : Aside0 (k < ps.length)) (HQ : Aside0 (aq[i]? = some q)) (HQD : Aside0 (IsD q.2)) (HLTQ : Aside0 (i < aq.length)) (HSAME : Aside0 (decide (nm p.1 = nm q.1 ∧ p.2 = q.2) = same)) (HB : Aside0 (Below W6.heap.size W6 wr)) :
    joined Tryd.prog (codeFirst in5) [26, 157, 158, 159, 160, 161, 162, 163, 164, 165, 166, 167, 168, 169, 170, 171, 172, 173, 174, 175, 176, 177, 178, 179, 180, 181, 182] (fun j W => j 26 = .bool same ∧ Below W6.heap.size W6 W) ⟨#[z0, z1, z2, z3, z4, z5, z6, z7, z8, z9, z10, z11, z12, z13, z14, z15, z16, .slice (some adS) ps.length cS, z18, z19, z20, z21, .slice (some adK) aq.length cK, .int .i64 (i : Int), z24, .int .i64 (k : Int), z26, z27, z28, z29, z30, z31, z32, z33, z34, z35, z36, z37, z38, z39, z40, z41, z42, z43, z44, z45, z46, z47, z48, z49, z50, z51, z52, z53, z54, z55, z56, z57, z58, z59, z60, z61, z62, z63, z64, z65, z66, z67, z68, z69, z70, z71, z72, z73, z74, z75, z76, z77, z78, z79, z80, z81, z82, z83, z84, z85, z86, z87, z88, z89, z90, z91, z92, z93, z94, z95, z96, z97, z98, z99, z100, z101, z102, z103, z104, z105, z106, z107, z108, z109, z110, z111, z112, z113, z114, z115, z116, z117, z118, z119, z120, z121, z122, z123, z124, z125, z126, z127, z128, z129, z130, z131, z132, z133, z134, z135, z136, z137, z138, z139, z140, z141, z142, z143, z144, z145, z146, z147, z148, z149, z150, z151, z152, z153, z154, z155, z156, z157, z158, z159, z160, z161, z162, z163, z164, z165, z166, z167, z168, z169, z170, z171, z172, z173, z174, z175, z176, z177, z178, z179, z180, z181, z182, z183, z184, z185, z186, z187, z188, z189, z190, z191, z192, z193, z194, z195, z196, z197, z198, z199, z200, z201, z202, z203, z204, z205, z206, z207, z208, z209, z210, z211, z212, z213, z214, z215, z216, z217, z218, z219, z220, z221, z222, z223, z224, z225, z226, z227, z228, z229, z230, z231, z232, z233, z234, z235, z236, z237, z238, z239, z240, z241, z242, z243, z244, z245, z246, z247, z248, z249, z250, z251, z252, z253, z254, z255, z256, z257, z258, z259, z260, z261, z262, z263, z264, z265, z266, z267, z268, z269, z270, z271, z272, z273, z274, z275, z276, z277, z278, z279, z280, z281, z282, z283, z284, z285, z286, z287, z288, z289, z290, z291, z292], []⟩ wr := by
  dsimp only [in5, tailCode, codeOf, codeNext, codeFirst, codeIn, Tryd.f3, Option.getD]
  unfold joined
  by_cases hN : nm p.1 = nm q.1
  · by_cases hD : p.2 = q.2
    · have HNN := Aside0.mk hN
      have HDD := Aside0.mk hD
      clear hN hD
      refine wp_region_noPanic ?_
      refine start_ (n := 27) (S := fun w' => Below W6.heap.size W6 w') (ds := []) #[false, false, false, false, false, false, false, false, false, false, false, false, false, false, false, false, false, false, false, false, false, false, false, false, false, false, false] (by kernel_rfl) rfl rfl (below_drew HB.out) (fun hHeld => ?_)
      refine pure_ (i := 0) (N := some 157) (v := ?v75) (a' := ?a75) #[true, false, false, false, false, false, false, false, false, false, false, false, false, false, false, false, false, false, false, false, false, false, false, false, false, false, false] rfl rfl (by kernel_rfl) (fun _ _ _ h => h) (Or.inl ⟨by rfl, ?hy75⟩) ?ha75 ?hh75
      case hy75 =>
        intro w'
        go_simp
        with_reducible rfl
      case ha75 =>
        simp only [Act.put, List.setIfInBounds_toArray, List.set_cons_zero, List.set_cons_succ]
        rfl
      refine pure_ (i := 1) (N := some 158) (v := ?v76) (a' := ?a76) #[true, true, false, false, false, false, false, false, false, false, false, false, false, false, false, false, false, false, false, false, false, false, false, false, false, false, false] rfl rfl (by kernel_rfl) (fun _ _ _ h => h) (Or.inl ⟨by rfl, ?hy76⟩) ?ha76 ?hh76
      case hy76 =>
        intro w'
        go_simp
        with_reducible rfl
      case ha76 =>
        simp only [Act.put, List.setIfInBounds_toArray, List.set_cons_zero, List.set_cons_succ]
        rfl
      refine pure_ (i := 2) (N := some 159) (v := (.pointer (some (adS.add (k * 33))))) (a' := ?a77) #[true, true, true, false, false, false, false, false, false, false, false, false, false, false, false, false, false, false, false, false, false, false, false, false, false, false, false] rfl rfl (by kernel_rfl) (fun _ _ _ h => h) (Or.inl ⟨by rfl, fun w' => idxP_run (.tmp 157) (.tmp 158) rfl adS ps.length cS k rfl rfl HLTP.out⟩) ?ha77 ?hh77
      case ha77 =>
        simp only [Act.put, List.setIfInBounds_toArray, List.set_cons_zero, List.set_cons_succ]
        rfl
      refine pure_ (i := 3) (N := some 160) (v := (.pointer (some (adS.add (k * 33))))) (a' := ?a78) #[true, true, true, true, false, false, false, false, false, false, false, false, false, false, false, false, false, false, false, false, false, false, false, false, false, false, false] rfl rfl (by kernel_rfl) (fun _ _ _ h => h) (Or.inl ⟨by rfl, fun w' => fld0_run (.tmp 159) rfl _ rfl⟩) ?ha78 ?hh78
      case ha78 =>
        simp only [Act.put, List.setIfInBounds_toArray, List.set_cons_zero, List.set_cons_succ]
        rfl
      refine take_ (i := 4) (N := some 161) (v := (.int .i64 p.1)) (a' := ?a79) #[true, true, true, true, true, false, false, false, false, false, false, false, false, false, false, false, false, false, false, false, false, false, false, false, false, false, false] rfl rfl (by kernel_rfl) (fun _ _ _ h => h) (Or.inl ⟨by rfl, fun w' s0 => loadI_run (.tmp 160) rfl _ rfl _ (pair_at (Kd.C_below CP5.out s0) HP.out).1⟩) hHeld ?ha79 ?hh79
      case ha79 =>
        simp only [Act.put, List.setIfInBounds_toArray, List.set_cons_zero, List.set_cons_succ]
        rfl
      refine pure_ (i := 6) (N := some 163) (v := ?v80) (a' := ?a80) #[true, true, true, true, true, false, true, false, false, false, false, false, false, false, false, false, false, false, false, false, false, false, false, false, false, false, false] rfl rfl (by kernel_rfl) (fun _ _ _ h => h) (Or.inl ⟨by rfl, ?hy80⟩) ?ha80 ?hh80
      case hy80 =>
        intro w'
        go_simp
        with_reducible rfl
      case ha80 =>
        simp only [Act.put, List.setIfInBounds_toArray, List.set_cons_zero, List.set_cons_succ]
        rfl
      refine pure_ (i := 7) (N := some 164) (v := ?v81) (a' := ?a81) #[true, true, true, true, true, false, true, true, false, false, false, false, false, false, false, false, false, false, false, false, false, false, false, false, false, false, false] rfl rfl (by kernel_rfl) (fun _ _ _ h => h) (Or.inl ⟨by rfl, ?hy81⟩) ?ha81 ?hh81
      case hy81 =>
        intro w'
        go_simp
        with_reducible rfl
      case ha81 =>
        simp only [Act.put, List.setIfInBounds_toArray, List.set_cons_zero, List.set_cons_succ]
        rfl
      refine pure_ (i := 8) (N := some 165) (v := (.pointer (some (adK.add (i * 33))))) (a' := ?a82) #[true, true, true, true, true, false, true, true, true, false, false, false, false, false, false, false, false, false, false, false, false, false, false, false, false, false, false] rfl rfl (by kernel_rfl) (fun _ _ _ h => h) (Or.inl ⟨by rfl, fun w' => idxP_run (.tmp 163) (.tmp 164) rfl adK aq.length cK i rfl rfl HLTQ.out⟩) ?ha82 ?hh82
      case ha82 =>
        simp only [Act.put, List.setIfInBounds_toArray, List.set_cons_zero, List.set_cons_succ]
        rfl
      refine pure_ (i := 9) (N := some 166) (v := (.pointer (some (adK.add (i * 33))))) (a' := ?a83) #[true, true, true, true, true, false, true, true, true, true, false, false, false, false, false, false, false, false, false, false, false, false, false, false, false, false, false] rfl rfl (by kernel_rfl) (fun _ _ _ h => h) (Or.inl ⟨by rfl, fun w' => fld0_run (.tmp 165) rfl _ rfl⟩) ?ha83 ?hh83
      case ha83 =>
        simp only [Act.put, List.setIfInBounds_toArray, List.set_cons_zero, List.set_cons_succ]
        rfl
      refine take_ (i := 10) (N := some 167) (v := (.int .i64 q.1)) (a' := ?a84) #[true, true, true, true, true, false, true, true, true, true, true, false, false, false, false, false, false, false, false, false, false, false, false, false, false, false, false] rfl rfl (by kernel_rfl) (fun _ _ _ h => h) (Or.inl ⟨by rfl, fun w' s0 => loadI_run (.tmp 166) rfl _ rfl _ (pair_at (Kd.C_below CK5.out s0) HQ.out).1⟩) hHeld ?ha84 ?hh84
      case ha84 =>
        simp only [Act.put, List.setIfInBounds_toArray, List.set_cons_zero, List.set_cons_succ]
        rfl
      refine one_ (i := 5) (N := some 162) #[true, true, true, true, true, true, true, true, true, true, true, false, false, false, false, false, false, false, false, false, false, false, false, false, false, false, false] rfl rfl (by kernel_rfl) (by decide) (fun K hK => ?_)
      refine goes_ Tryd.func9 (by kernel_rfl) rfl #[.int .i64 p.1] (by rfl) rfl rfl (by simp only [List.map_toArray, List.map_cons, List.map_nil]; rfl) ?_
      refine (name_calls p.1 _).mono ?_
      rintro e wn301 ⟨rfl, ln301⟩
      refine ⟨_, rfl, hK.out _ _ (below_step hHeld ln301) (fun hHeld => ?_)⟩
      clear hK K ln301
      refine norm_ (a' := ?a85) ?ha85 ?hh85
      case ha85 =>
        show Act.put _ (some 162) _ = _
        simp only [Act.put, List.setIfInBounds_toArray, List.set_cons_zero, List.set_cons_succ]
        rfl
      refine one_ (i := 11) (N := some 168) #[true, true, true, true, true, true, true, true, true, true, true, true, false, false, false, false, false, false, false, false, false, false, false, false, false, false, false] rfl rfl (by kernel_rfl) (by decide) (fun K hK => ?_)
      refine goes_ Tryd.func9 (by kernel_rfl) rfl #[.int .i64 q.1] (by rfl) rfl rfl (by simp only [List.map_toArray, List.map_cons, List.map_nil]; rfl) ?_
      refine (name_calls q.1 _).mono ?_
      rintro e wn302 ⟨rfl, ln302⟩
      refine ⟨_, rfl, hK.out _ _ (below_step hHeld ln302) (fun hHeld => ?_)⟩
      clear hK K ln302
      refine norm_ (a' := ?a86) ?ha86 ?hh86
      case ha86 =>
        show Act.put _ (some 168) _ = _
        simp only [Act.put, List.setIfInBounds_toArray, List.set_cons_zero, List.set_cons_succ]
        rfl
      refine pure_ (i := 12) (N := some 169) (v := (.bool true)) (a' := ?a87) #[true, true, true, true, true, true, true, true, true, true, true, true, true, false, false, false, false, false, false, false, false, false, false, false, false, false, false] rfl rfl (by kernel_rfl) (fun _ _ _ h => h) (Or.inl ⟨by rfl, fun w' => eqlS_run _ _ (.tmp 162) (.tmp 168) rfl rfl _ _ rfl rfl true (decide_eq_true HNN.out)⟩) ?ha87 ?hh87
      case ha87 =>
        simp only [Act.put, List.setIfInBounds_toArray, List.set_cons_zero, List.set_cons_succ]
        rfl
      refine pure_ (i := 13) (N := some 170) (v := ?v88) (a' := ?a88) #[true, true, true, true, true, true, true, true, true, true, true, true, true, true, false, false, false, false, false, false, false, false, false, false, false, false, false] rfl rfl (by kernel_rfl) (fun _ _ _ h => h) (Or.inl ⟨by rfl, ?hy88⟩) ?ha88 ?hh88
      case hy88 =>
        intro w'
        go_simp
        with_reducible rfl
      case ha88 =>
        simp only [Act.put, List.setIfInBounds_toArray, List.set_cons_zero, List.set_cons_succ]
        rfl
      refine pure_ (i := 14) (N := some 171) (v := ?v89) (a' := ?a89) #[true, true, true, true, true, true, true, true, true, true, true, true, true, true, true, false, false, false, false, false, false, false, false, false, false, false, false] rfl rfl (by kernel_rfl) (fun _ _ _ h => h) (Or.inl ⟨by rfl, ?hy89⟩) ?ha89 ?hh89
      case hy89 =>
        intro w'
        go_simp
        with_reducible rfl
      case ha89 =>
        simp only [Act.put, List.setIfInBounds_toArray, List.set_cons_zero, List.set_cons_succ]
        rfl
      refine pure_ (i := 15) (N := some 172) (v := ?v90) (a' := ?a90) #[true, true, true, true, true, true, true, true, true, true, true, true, true, true, true, true, false, false, false, false, false, false, false, false, false, false, false] rfl rfl (by kernel_rfl) (fun _ _ _ h => h) (Or.inl ⟨by rfl, ?hy90⟩) ?ha90 ?hh90
      case hy90 =>
        intro w'
        go_simp
        with_reducible rfl
      case ha90 =>
        simp only [Act.put, List.setIfInBounds_toArray, List.set_cons_zero, List.set_cons_succ]
        rfl
      refine pure_ (i := 16) (N := some 173) (v := (.pointer (some (adS.add (k * 33))))) (a' := ?a91) #[true, true, true, true, true, true, true, true, true, true, true, true, true, true, true, true, true, false, false, false, false, false, false, false, false, false, false] rfl rfl (by kernel_rfl) (fun _ _ _ h => h) (Or.inl ⟨by rfl, fun w' => idxP_run (.tmp 171) (.tmp 172) rfl adS ps.length cS k rfl rfl HLTP.out⟩) ?ha91 ?hh91
      case ha91 =>
        simp only [Act.put, List.setIfInBounds_toArray, List.set_cons_zero, List.set_cons_succ]
        rfl
      refine pure_ (i := 17) (N := some 174) (v := (.pointer (some (adS.add (k * 33 + 1))))) (a' := ?a92) #[true, true, true, true, true, true, true, true, true, true, true, true, true, true, true, true, true, true, false, false, false, false, false, false, false, false, false] rfl rfl (by kernel_rfl) (fun _ _ _ h => h) (Or.inl ⟨by rfl, fun w' => fld1_run (.tmp 173) rfl adS k rfl⟩) ?ha92 ?hh92
      case ha92 =>
        simp only [Act.put, List.setIfInBounds_toArray, List.set_cons_zero, List.set_cons_succ]
        rfl
      refine take_ (i := 18) (N := some 175) (v := (.agg (nums .u8 p.2).toArray)) (a' := ?a93) #[true, true, true, true, true, true, true, true, true, true, true, true, true, true, true, true, true, true, true, false, false, false, false, false, false, false, false] rfl rfl (by kernel_rfl) (fun _ _ _ h => h) (Or.inl ⟨by rfl, fun w' s0 => loadD_run (.tmp 174) rfl _ rfl _ (pair_at (Kd.C_below CP5.out s0) HP.out).2.2 (pair_at (Kd.C_below CP5.out s0) HP.out).2.1⟩) hHeld ?ha93 ?hh93
      case ha93 =>
        simp only [Act.put, List.setIfInBounds_toArray, List.set_cons_zero, List.set_cons_succ]
        rfl
      refine pure_ (i := 19) (N := some 176) (v := ?v94) (a' := ?a94) #[true, true, true, true, true, true, true, true, true, true, true, true, true, true, true, true, true, true, true, true, false, false, false, false, false, false, false] rfl rfl (by kernel_rfl) (fun _ _ _ h => h) (Or.inl ⟨by rfl, ?hy94⟩) ?ha94 ?hh94
      case hy94 =>
        intro w'
        go_simp
        with_reducible rfl
      case ha94 =>
        simp only [Act.put, List.setIfInBounds_toArray, List.set_cons_zero, List.set_cons_succ]
        rfl
      refine pure_ (i := 20) (N := some 177) (v := ?v95) (a' := ?a95) #[true, true, true, true, true, true, true, true, true, true, true, true, true, true, true, true, true, true, true, true, true, false, false, false, false, false, false] rfl rfl (by kernel_rfl) (fun _ _ _ h => h) (Or.inl ⟨by rfl, ?hy95⟩) ?ha95 ?hh95
      case hy95 =>
        intro w'
        go_simp
        with_reducible rfl
      case ha95 =>
        simp only [Act.put, List.setIfInBounds_toArray, List.set_cons_zero, List.set_cons_succ]
        rfl
      refine pure_ (i := 21) (N := some 178) (v := (.pointer (some (adK.add (i * 33))))) (a' := ?a96) #[true, true, true, true, true, true, true, true, true, true, true, true, true, true, true, true, true, true, true, true, true, true, false, false, false, false, false] rfl rfl (by kernel_rfl) (fun _ _ _ h => h) (Or.inl ⟨by rfl, fun w' => idxP_run (.tmp 176) (.tmp 177) rfl adK aq.length cK i rfl rfl HLTQ.out⟩) ?ha96 ?hh96
      case ha96 =>
        simp only [Act.put, List.setIfInBounds_toArray, List.set_cons_zero, List.set_cons_succ]
        rfl
      refine pure_ (i := 22) (N := some 179) (v := (.pointer (some (adK.add (i * 33 + 1))))) (a' := ?a97) #[true, true, true, true, true, true, true, true, true, true, true, true, true, true, true, true, true, true, true, true, true, true, true, false, false, false, false] rfl rfl (by kernel_rfl) (fun _ _ _ h => h) (Or.inl ⟨by rfl, fun w' => fld1_run (.tmp 178) rfl adK i rfl⟩) ?ha97 ?hh97
      case ha97 =>
        simp only [Act.put, List.setIfInBounds_toArray, List.set_cons_zero, List.set_cons_succ]
        rfl
      refine take_ (i := 23) (N := some 180) (v := (.agg (nums .u8 q.2).toArray)) (a' := ?a98) #[true, true, true, true, true, true, true, true, true, true, true, true, true, true, true, true, true, true, true, true, true, true, true, true, false, false, false] rfl rfl (by kernel_rfl) (fun _ _ _ h => h) (Or.inl ⟨by rfl, fun w' s0 => loadD_run (.tmp 179) rfl _ rfl _ (pair_at (Kd.C_below CK5.out s0) HQ.out).2.2 (pair_at (Kd.C_below CK5.out s0) HQ.out).2.1⟩) hHeld ?ha98 ?hh98
      case ha98 =>
        simp only [Act.put, List.setIfInBounds_toArray, List.set_cons_zero, List.set_cons_succ]
        rfl
      refine pure_ (i := 24) (N := some 181) (v := (.bool true)) (a' := ?a99) #[true, true, true, true, true, true, true, true, true, true, true, true, true, true, true, true, true, true, true, true, true, true, true, true, true, false, false] rfl rfl (by kernel_rfl) (fun _ _ _ h => h) (Or.inl ⟨by rfl, fun w' => eqlD_run _ (.tmp 175) (.tmp 180) rfl _ _ rfl rfl HPD.out HQD.out true (decide_eq_true HDD.out)⟩) ?ha99 ?hh99
      case ha99 =>
        simp only [Act.put, List.setIfInBounds_toArray, List.set_cons_zero, List.set_cons_succ]
        rfl
      refine pure_ (i := 25) (N := some 182) (v := ?v100) (a' := ?a100) #[true, true, true, true, true, true, true, true, true, true, true, true, true, true, true, true, true, true, true, true, true, true, true, true, true, true, false] rfl rfl (by kernel_rfl) (fun _ _ _ h => h) (Or.inl ⟨by rfl, ?hy100⟩) ?ha100 ?hh100
      case hy100 =>
        intro w'
        go_simp
        with_reducible rfl
      case ha100 =>
        simp only [Act.put, List.setIfInBounds_toArray, List.set_cons_zero, List.set_cons_succ]
        rfl
      refine pure_ (i := 26) (N := some 26) (v := ?v101) (a' := ?a101) #[true, true, true, true, true, true, true, true, true, true, true, true, true, true, true, true, true, true, true, true, true, true, true, true, true, true, true] rfl rfl (by kernel_rfl) (fun _ _ _ h => h) (Or.inl ⟨by rfl, ?hy101⟩) ?ha101 ?hh101
      case hy101 =>
        intro w'
        go_simp
        with_reducible rfl
      case ha101 =>
        simp only [Act.put, List.setIfInBounds_toArray, List.set_cons_zero, List.set_cons_succ]
        rfl
      refine done_ (by kernel_rfl) ?_
      refine NoPanic.normal ?_
      refine ⟨rfl, ?_, ?_, hHeld⟩
      · simp only [List.map_cons, List.map_nil, putAll, Act.put, List.setIfInBounds_toArray, List.set_cons_zero, List.set_cons_succ]
        rfl
      · show _ = _
        rw [← HSAME.out]
        exact congrArg Value.bool (decide_eq_true ⟨HNN.out, HDD.out⟩).symm
    · have HNN := Aside0.mk hN
      have HDD := Aside0.mk hD
      clear hN hD
      refine wp_region_noPanic ?_
      refine start_ (n := 27) (S := fun w' => Below W6.heap.size W6 w') (ds := []) #[false, false, false, false, false, false, false, false, false, false, false, false, false, false, false, false, false, false, false, false, false, false, false, false, false, false, false] (by kernel_rfl) rfl rfl (below_drew HB.out) (fun hHeld => ?_)
      refine pure_ (i := 0) (N := some 157) (v := ?v102) (a' := ?a102) #[true, false, false, false, false, false, false, false, false, false, false, false, false, false, false, false, false, false, false, false, false, false, false, false, false, false, false] rfl rfl (by kernel_rfl) (fun _ _ _ h => h) (Or.inl ⟨by rfl, ?hy102⟩) ?ha102 ?hh102
      case hy102 =>
        intro w'
        go_simp
        with_reducible rfl
      case ha102 =>
        simp only [Act.put, List.setIfInBounds_toArray, List.set_cons_zero, List.set_cons_succ]
        rfl
      refine pure_ (i := 1) (N := some 158) (v := ?v103) (a' := ?a103) #[true, true, false, false, false, false, false, false, false, false, false, false, false, false, false, false, false, false, false, false, false, false, false, false, false, false, false] rfl rfl (by kernel_rfl) (fun _ _ _ h => h) (Or.inl ⟨by rfl, ?hy103⟩) ?ha103 ?hh103
      case hy103 =>
        intro w'
        go_simp
        with_reducible rfl
      case ha103 =>
        simp only [Act.put, List.setIfInBounds_toArray, List.set_cons_zero, List.set_cons_succ]
        rfl
      refine pure_ (i := 2) (N := some 159) (v := (.pointer (some (adS.add (k * 33))))) (a' := ?a104) #[true, true, true, false, false, false, false, false, false, false, false, false, false, false, false, false, false, false, false, false, false, false, false, false, false, false, false] rfl rfl (by kernel_rfl) (fun _ _ _ h => h) (Or.inl ⟨by rfl, fun w' => idxP_run (.tmp 157) (.tmp 158) rfl adS ps.length cS k rfl rfl HLTP.out⟩) ?ha104 ?hh104
      case ha104 =>
        simp only [Act.put, List.setIfInBounds_toArray, List.set_cons_zero, List.set_cons_succ]
        rfl
      refine pure_ (i := 3) (N := some 160) (v := (.pointer (some (adS.add (k * 33))))) (a' := ?a105) #[true, true, true, true, false, false, false, false, false, false, false, false, false, false, false, false, false, false, false, false, false, false, false, false, false, false, false] rfl rfl (by kernel_rfl) (fun _ _ _ h => h) (Or.inl ⟨by rfl, fun w' => fld0_run (.tmp 159) rfl _ rfl⟩) ?ha105 ?hh105
      case ha105 =>
        simp only [Act.put, List.setIfInBounds_toArray, List.set_cons_zero, List.set_cons_succ]
        rfl
      refine take_ (i := 4) (N := some 161) (v := (.int .i64 p.1)) (a' := ?a106) #[true, true, true, true, true, false, false, false, false, false, false, false, false, false, false, false, false, false, false, false, false, false, false, false, false, false, false] rfl rfl (by kernel_rfl) (fun _ _ _ h => h) (Or.inl ⟨by rfl, fun w' s0 => loadI_run (.tmp 160) rfl _ rfl _ (pair_at (Kd.C_below CP5.out s0) HP.out).1⟩) hHeld ?ha106 ?hh106
      case ha106 =>
        simp only [Act.put, List.setIfInBounds_toArray, List.set_cons_zero, List.set_cons_succ]
        rfl
      refine pure_ (i := 6) (N := some 163) (v := ?v107) (a' := ?a107) #[true, true, true, true, true, false, true, false, false, false, false, false, false, false, false, false, false, false, false, false, false, false, false, false, false, false, false] rfl rfl (by kernel_rfl) (fun _ _ _ h => h) (Or.inl ⟨by rfl, ?hy107⟩) ?ha107 ?hh107
      case hy107 =>
        intro w'
        go_simp
        with_reducible rfl
      case ha107 =>
        simp only [Act.put, List.setIfInBounds_toArray, List.set_cons_zero, List.set_cons_succ]
        rfl
      refine pure_ (i := 7) (N := some 164) (v := ?v108) (a' := ?a108) #[true, true, true, true, true, false, true, true, false, false, false, false, false, false, false, false, false, false, false, false, false, false, false, false, false, false, false] rfl rfl (by kernel_rfl) (fun _ _ _ h => h) (Or.inl ⟨by rfl, ?hy108⟩) ?ha108 ?hh108
      case hy108 =>
        intro w'
        go_simp
        with_reducible rfl
      case ha108 =>
        simp only [Act.put, List.setIfInBounds_toArray, List.set_cons_zero, List.set_cons_succ]
        rfl
      refine pure_ (i := 8) (N := some 165) (v := (.pointer (some (adK.add (i * 33))))) (a' := ?a109) #[true, true, true, true, true, false, true, true, true, false, false, false, false, false, false, false, false, false, false, false, false, false, false, false, false, false, false] rfl rfl (by kernel_rfl) (fun _ _ _ h => h) (Or.inl ⟨by rfl, fun w' => idxP_run (.tmp 163) (.tmp 164) rfl adK aq.length cK i rfl rfl HLTQ.out⟩) ?ha109 ?hh109
      case ha109 =>
        simp only [Act.put, List.setIfInBounds_toArray, List.set_cons_zero, List.set_cons_succ]
        rfl
      refine pure_ (i := 9) (N := some 166) (v := (.pointer (some (adK.add (i * 33))))) (a' := ?a110) #[true, true, true, true, true, false, true, true, true, true, false, false, false, false, false, false, false, false, false, false, false, false, false, false, false, false, false] rfl rfl (by kernel_rfl) (fun _ _ _ h => h) (Or.inl ⟨by rfl, fun w' => fld0_run (.tmp 165) rfl _ rfl⟩) ?ha110 ?hh110
      case ha110 =>
        simp only [Act.put, List.setIfInBounds_toArray, List.set_cons_zero, List.set_cons_succ]
        rfl
      refine take_ (i := 10) (N := some 167) (v := (.int .i64 q.1)) (a' := ?a111) #[true, true, true, true, true, false, true, true, true, true, true, false, false, false, false, false, false, false, false, false, false, false, false, false, false, false, false] rfl rfl (by kernel_rfl) (fun _ _ _ h => h) (Or.inl ⟨by rfl, fun w' s0 => loadI_run (.tmp 166) rfl _ rfl _ (pair_at (Kd.C_below CK5.out s0) HQ.out).1⟩) hHeld ?ha111 ?hh111
      case ha111 =>
        simp only [Act.put, List.setIfInBounds_toArray, List.set_cons_zero, List.set_cons_succ]
        rfl
      refine one_ (i := 5) (N := some 162) #[true, true, true, true, true, true, true, true, true, true, true, false, false, false, false, false, false, false, false, false, false, false, false, false, false, false, false] rfl rfl (by kernel_rfl) (by decide) (fun K hK => ?_)
      refine goes_ Tryd.func9 (by kernel_rfl) rfl #[.int .i64 p.1] (by rfl) rfl rfl (by simp only [List.map_toArray, List.map_cons, List.map_nil]; rfl) ?_
      refine (name_calls p.1 _).mono ?_
      rintro e wn303 ⟨rfl, ln303⟩
      refine ⟨_, rfl, hK.out _ _ (below_step hHeld ln303) (fun hHeld => ?_)⟩
      clear hK K ln303
      refine norm_ (a' := ?a112) ?ha112 ?hh112
      case ha112 =>
        show Act.put _ (some 162) _ = _
        simp only [Act.put, List.setIfInBounds_toArray, List.set_cons_zero, List.set_cons_succ]
        rfl
      refine one_ (i := 11) (N := some 168) #[true, true, true, true, true, true, true, true, true, true, true, true, false, false, false, false, false, false, false, false, false, false, false, false, false, false, false] rfl rfl (by kernel_rfl) (by decide) (fun K hK => ?_)
      refine goes_ Tryd.func9 (by kernel_rfl) rfl #[.int .i64 q.1] (by rfl) rfl rfl (by simp only [List.map_toArray, List.map_cons, List.map_nil]; rfl) ?_
      refine (name_calls q.1 _).mono ?_
      rintro e wn304 ⟨rfl, ln304⟩
      refine ⟨_, rfl, hK.out _ _ (below_step hHeld ln304) (fun hHeld => ?_)⟩
      clear hK K ln304
      refine norm_ (a' := ?a113) ?ha113 ?hh113
      case ha113 =>
        show Act.put _ (some 168) _ = _
        simp only [Act.put, List.setIfInBounds_toArray, List.set_cons_zero, List.set_cons_succ]
        rfl
      refine pure_ (i := 12) (N := some 169) (v := (.bool true)) (a' := ?a114) #[true, true, true, true, true, true, true, true, true, true, true, true, true, false, false, false, false, false, false, false, false, false, false, false, false, false, false] rfl rfl (by kernel_rfl) (fun _ _ _ h => h) (Or.inl ⟨by rfl, fun w' => eqlS_run _ _ (.tmp 162) (.tmp 168) rfl rfl _ _ rfl rfl true (decide_eq_true HNN.out)⟩) ?ha114 ?hh114
      case ha114 =>
        simp only [Act.put, List.setIfInBounds_toArray, List.set_cons_zero, List.set_cons_succ]
        rfl
      refine pure_ (i := 13) (N := some 170) (v := ?v115) (a' := ?a115) #[true, true, true, true, true, true, true, true, true, true, true, true, true, true, false, false, false, false, false, false, false, false, false, false, false, false, false] rfl rfl (by kernel_rfl) (fun _ _ _ h => h) (Or.inl ⟨by rfl, ?hy115⟩) ?ha115 ?hh115
      case hy115 =>
        intro w'
        go_simp
        with_reducible rfl
      case ha115 =>
        simp only [Act.put, List.setIfInBounds_toArray, List.set_cons_zero, List.set_cons_succ]
        rfl
      refine pure_ (i := 14) (N := some 171) (v := ?v116) (a' := ?a116) #[true, true, true, true, true, true, true, true, true, true, true, true, true, true, true, false, false, false, false, false, false, false, false, false, false, false, false] rfl rfl (by kernel_rfl) (fun _ _ _ h => h) (Or.inl ⟨by rfl, ?hy116⟩) ?ha116 ?hh116
      case hy116 =>
        intro w'
        go_simp
        with_reducible rfl
      case ha116 =>
        simp only [Act.put, List.setIfInBounds_toArray, List.set_cons_zero, List.set_cons_succ]
        rfl
      refine pure_ (i := 15) (N := some 172) (v := ?v117) (a' := ?a117) #[true, true, true, true, true, true, true, true, true, true, true, true, true, true, true, true, false, false, false, false, false, false, false, false, false, false, false] rfl rfl (by kernel_rfl) (fun _ _ _ h => h) (Or.inl ⟨by rfl, ?hy117⟩) ?ha117 ?hh117
      case hy117 =>
        intro w'
        go_simp
        with_reducible rfl
      case ha117 =>
        simp only [Act.put, List.setIfInBounds_toArray, List.set_cons_zero, List.set_cons_succ]
        rfl
      refine pure_ (i := 16) (N := some 173) (v := (.pointer (some (adS.add (k * 33))))) (a' := ?a118) #[true, true, true, true, true, true, true, true, true, true, true, true, true, true, true, true, true, false, false, false, false, false, false, false, false, false, false] rfl rfl (by kernel_rfl) (fun _ _ _ h => h) (Or.inl ⟨by rfl, fun w' => idxP_run (.tmp 171) (.tmp 172) rfl adS ps.length cS k rfl rfl HLTP.out⟩) ?ha118 ?hh118
      case ha118 =>
        simp only [Act.put, List.setIfInBounds_toArray, List.set_cons_zero, List.set_cons_succ]
        rfl
      refine pure_ (i := 17) (N := some 174) (v := (.pointer (some (adS.add (k * 33 + 1))))) (a' := ?a119) #[true, true, true, true, true, true, true, true, true, true, true, true, true, true, true, true, true, true, false, false, false, false, false, false, false, false, false] rfl rfl (by kernel_rfl) (fun _ _ _ h => h) (Or.inl ⟨by rfl, fun w' => fld1_run (.tmp 173) rfl adS k rfl⟩) ?ha119 ?hh119
      case ha119 =>
        simp only [Act.put, List.setIfInBounds_toArray, List.set_cons_zero, List.set_cons_succ]
        rfl
      refine take_ (i := 18) (N := some 175) (v := (.agg (nums .u8 p.2).toArray)) (a' := ?a120) #[true, true, true, true, true, true, true, true, true, true, true, true, true, true, true, true, true, true, true, false, false, false, false, false, false, false, false] rfl rfl (by kernel_rfl) (fun _ _ _ h => h) (Or.inl ⟨by rfl, fun w' s0 => loadD_run (.tmp 174) rfl _ rfl _ (pair_at (Kd.C_below CP5.out s0) HP.out).2.2 (pair_at (Kd.C_below CP5.out s0) HP.out).2.1⟩) hHeld ?ha120 ?hh120
      case ha120 =>
        simp only [Act.put, List.setIfInBounds_toArray, List.set_cons_zero, List.set_cons_succ]
        rfl
      refine pure_ (i := 19) (N := some 176) (v := ?v121) (a' := ?a121) #[true, true, true, true, true, true, true, true, true, true, true, true, true, true, true, true, true, true, true, true, false, false, false, false, false, false, false] rfl rfl (by kernel_rfl) (fun _ _ _ h => h) (Or.inl ⟨by rfl, ?hy121⟩) ?ha121 ?hh121
      case hy121 =>
        intro w'
        go_simp
        with_reducible rfl
      case ha121 =>
        simp only [Act.put, List.setIfInBounds_toArray, List.set_cons_zero, List.set_cons_succ]
        rfl
      refine pure_ (i := 20) (N := some 177) (v := ?v122) (a' := ?a122) #[true, true, true, true, true, true, true, true, true, true, true, true, true, true, true, true, true, true, true, true, true, false, false, false, false, false, false] rfl rfl (by kernel_rfl) (fun _ _ _ h => h) (Or.inl ⟨by rfl, ?hy122⟩) ?ha122 ?hh122
      case hy122 =>
        intro w'
        go_simp
        with_reducible rfl
      case ha122 =>
        simp only [Act.put, List.setIfInBounds_toArray, List.set_cons_zero, List.set_cons_succ]
        rfl
      refine pure_ (i := 21) (N := some 178) (v := (.pointer (some (adK.add (i * 33))))) (a' := ?a123) #[true, true, true, true, true, true, true, true, true, true, true, true, true, true, true, true, true, true, true, true, true, true, false, false, false, false, false] rfl rfl (by kernel_rfl) (fun _ _ _ h => h) (Or.inl ⟨by rfl, fun w' => idxP_run (.tmp 176) (.tmp 177) rfl adK aq.length cK i rfl rfl HLTQ.out⟩) ?ha123 ?hh123
      case ha123 =>
        simp only [Act.put, List.setIfInBounds_toArray, List.set_cons_zero, List.set_cons_succ]
        rfl
      refine pure_ (i := 22) (N := some 179) (v := (.pointer (some (adK.add (i * 33 + 1))))) (a' := ?a124) #[true, true, true, true, true, true, true, true, true, true, true, true, true, true, true, true, true, true, true, true, true, true, true, false, false, false, false] rfl rfl (by kernel_rfl) (fun _ _ _ h => h) (Or.inl ⟨by rfl, fun w' => fld1_run (.tmp 178) rfl adK i rfl⟩) ?ha124 ?hh124
      case ha124 =>
        simp only [Act.put, List.setIfInBounds_toArray, List.set_cons_zero, List.set_cons_succ]
        rfl
      refine take_ (i := 23) (N := some 180) (v := (.agg (nums .u8 q.2).toArray)) (a' := ?a125) #[true, true, true, true, true, true, true, true, true, true, true, true, true, true, true, true, true, true, true, true, true, true, true, true, false, false, false] rfl rfl (by kernel_rfl) (fun _ _ _ h => h) (Or.inl ⟨by rfl, fun w' s0 => loadD_run (.tmp 179) rfl _ rfl _ (pair_at (Kd.C_below CK5.out s0) HQ.out).2.2 (pair_at (Kd.C_below CK5.out s0) HQ.out).2.1⟩) hHeld ?ha125 ?hh125
      case ha125 =>
        simp only [Act.put, List.setIfInBounds_toArray, List.set_cons_zero, List.set_cons_succ]
        rfl
      refine pure_ (i := 24) (N := some 181) (v := (.bool false)) (a' := ?a126) #[true, true, true, true, true, true, true, true, true, true, true, true, true, true, true, true, true, true, true, true, true, true, true, true, true, false, false] rfl rfl (by kernel_rfl) (fun _ _ _ h => h) (Or.inl ⟨by rfl, fun w' => eqlD_run _ (.tmp 175) (.tmp 180) rfl _ _ rfl rfl HPD.out HQD.out false (decide_eq_false HDD.out)⟩) ?ha126 ?hh126
      case ha126 =>
        simp only [Act.put, List.setIfInBounds_toArray, List.set_cons_zero, List.set_cons_succ]
        rfl
      refine pure_ (i := 25) (N := some 182) (v := ?v127) (a' := ?a127) #[true, true, true, true, true, true, true, true, true, true, true, true, true, true, true, true, true, true, true, true, true, true, true, true, true, true, false] rfl rfl (by kernel_rfl) (fun _ _ _ h => h) (Or.inl ⟨by rfl, ?hy127⟩) ?ha127 ?hh127
      case hy127 =>
        intro w'
        go_simp
        with_reducible rfl
      case ha127 =>
        simp only [Act.put, List.setIfInBounds_toArray, List.set_cons_zero, List.set_cons_succ]
        rfl
      refine pure_ (i := 26) (N := some 26) (v := ?v128) (a' := ?a128) #[true, true, true, true, true, true, true, true, true, true, true, true, true, true, true, true, true, true, true, true, true, true, true, true, true, true, true] rfl rfl (by kernel_rfl) (fun _ _ _ h => h) (Or.inl ⟨by rfl, ?hy128⟩) ?ha128 ?hh128
      case hy128 =>
        intro w'
        go_simp
        with_reducible rfl
      case ha128 =>
        simp only [Act.put, List.setIfInBounds_toArray, List.set_cons_zero, List.set_cons_succ]
        rfl
      refine done_ (by kernel_rfl) ?_
      refine NoPanic.normal ?_
      refine ⟨rfl, ?_, ?_, hHeld⟩
      · simp only [List.map_cons, List.map_nil, putAll, Act.put, List.setIfInBounds_toArray, List.set_cons_zero, List.set_cons_succ]
        rfl
      · show _ = _
        rw [← HSAME.out]
        exact congrArg Value.bool (decide_eq_false (fun h => HDD.out h.2)).symm
  · have HNN := Aside0.mk hN
    clear hN
    refine wp_region_noPanic ?_
    refine start_ (n := 27) (S := fun w' => Below W6.heap.size W6 w') (ds := []) #[false, false, false, false, false, false, false, false, false, false, false, false, false, false, false, false, false, false, false, false, false, false, false, false, false, false, false] (by kernel_rfl) rfl rfl (below_drew HB.out) (fun hHeld => ?_)
    refine pure_ (i := 0) (N := some 157) (v := ?v129) (a' := ?a129) #[true, false, false, false, false, false, false, false, false, false, false, false, false, false, false, false, false, false, false, false, false, false, false, false, false, false, false] rfl rfl (by kernel_rfl) (fun _ _ _ h => h) (Or.inl ⟨by rfl, ?hy129⟩) ?ha129 ?hh129
    case hy129 =>
      intro w'
      go_simp
      with_reducible rfl
    case ha129 =>
      simp only [Act.put, List.setIfInBounds_toArray, List.set_cons_zero, List.set_cons_succ]
      rfl
    refine pure_ (i := 1) (N := some 158) (v := ?v130) (a' := ?a130) #[true, true, false, false, false, false, false, false, false, false, false, false, false, false, false, false, false, false, false, false, false, false, false, false, false, false, false] rfl rfl (by kernel_rfl) (fun _ _ _ h => h) (Or.inl ⟨by rfl, ?hy130⟩) ?ha130 ?hh130
    case hy130 =>
      intro w'
      go_simp
      with_reducible rfl
    case ha130 =>
      simp only [Act.put, List.setIfInBounds_toArray, List.set_cons_zero, List.set_cons_succ]
      rfl
    refine pure_ (i := 2) (N := some 159) (v := (.pointer (some (adS.add (k * 33))))) (a' := ?a131) #[true, true, true, false, false, false, false, false, false, false, false, false, false, false, false, false, false, false, false, false, false, false, false, false, false, false, false] rfl rfl (by kernel_rfl) (fun _ _ _ h => h) (Or.inl ⟨by rfl, fun w' => idxP_run (.tmp 157) (.tmp 158) rfl adS ps.length cS k rfl rfl HLTP.out⟩) ?ha131 ?hh131
    case ha131 =>
      simp only [Act.put, List.setIfInBounds_toArray, List.set_cons_zero, List.set_cons_succ]
      rfl
    refine pure_ (i := 3) (N := some 160) (v := (.pointer (some (adS.add (k * 33))))) (a' := ?a132) #[true, true, true, true, false, false, false, false, false, false, false, false, false, false, false, false, false, false, false, false, false, false, false, false, false, false, false] rfl rfl (by kernel_rfl) (fun _ _ _ h => h) (Or.inl ⟨by rfl, fun w' => fld0_run (.tmp 159) rfl _ rfl⟩) ?ha132 ?hh132
    case ha132 =>
      simp only [Act.put, List.setIfInBounds_toArray, List.set_cons_zero, List.set_cons_succ]
      rfl
    refine take_ (i := 4) (N := some 161) (v := (.int .i64 p.1)) (a' := ?a133) #[true, true, true, true, true, false, false, false, false, false, false, false, false, false, false, false, false, false, false, false, false, false, false, false, false, false, false] rfl rfl (by kernel_rfl) (fun _ _ _ h => h) (Or.inl ⟨by rfl, fun w' s0 => loadI_run (.tmp 160) rfl _ rfl _ (pair_at (Kd.C_below CP5.out s0) HP.out).1⟩) hHeld ?ha133 ?hh133
    case ha133 =>
      simp only [Act.put, List.setIfInBounds_toArray, List.set_cons_zero, List.set_cons_succ]
      rfl
    refine pure_ (i := 6) (N := some 163) (v := ?v134) (a' := ?a134) #[true, true, true, true, true, false, true, false, false, false, false, false, false, false, false, false, false, false, false, false, false, false, false, false, false, false, false] rfl rfl (by kernel_rfl) (fun _ _ _ h => h) (Or.inl ⟨by rfl, ?hy134⟩) ?ha134 ?hh134
    case hy134 =>
      intro w'
      go_simp
      with_reducible rfl
    case ha134 =>
      simp only [Act.put, List.setIfInBounds_toArray, List.set_cons_zero, List.set_cons_succ]
      rfl
    refine pure_ (i := 7) (N := some 164) (v := ?v135) (a' := ?a135) #[true, true, true, true, true, false, true, true, false, false, false, false, false, false, false, false, false, false, false, false, false, false, false, false, false, false, false] rfl rfl (by kernel_rfl) (fun _ _ _ h => h) (Or.inl ⟨by rfl, ?hy135⟩) ?ha135 ?hh135
    case hy135 =>
      intro w'
      go_simp
      with_reducible rfl
    case ha135 =>
      simp only [Act.put, List.setIfInBounds_toArray, List.set_cons_zero, List.set_cons_succ]
      rfl
    refine pure_ (i := 8) (N := some 165) (v := (.pointer (some (adK.add (i * 33))))) (a' := ?a136) #[true, true, true, true, true, false, true, true, true, false, false, false, false, false, false, false, false, false, false, false, false, false, false, false, false, false, false] rfl rfl (by kernel_rfl) (fun _ _ _ h => h) (Or.inl ⟨by rfl, fun w' => idxP_run (.tmp 163) (.tmp 164) rfl adK aq.length cK i rfl rfl HLTQ.out⟩) ?ha136 ?hh136
    case ha136 =>
      simp only [Act.put, List.setIfInBounds_toArray, List.set_cons_zero, List.set_cons_succ]
      rfl
    refine pure_ (i := 9) (N := some 166) (v := (.pointer (some (adK.add (i * 33))))) (a' := ?a137) #[true, true, true, true, true, false, true, true, true, true, false, false, false, false, false, false, false, false, false, false, false, false, false, false, false, false, false] rfl rfl (by kernel_rfl) (fun _ _ _ h => h) (Or.inl ⟨by rfl, fun w' => fld0_run (.tmp 165) rfl _ rfl⟩) ?ha137 ?hh137
    case ha137 =>
      simp only [Act.put, List.setIfInBounds_toArray, List.set_cons_zero, List.set_cons_succ]
      rfl
    refine take_ (i := 10) (N := some 167) (v := (.int .i64 q.1)) (a' := ?a138) #[true, true, true, true, true, false, true, true, true, true, true, false, false, false, false, false, false, false, false, false, false, false, false, false, false, false, false] rfl rfl (by kernel_rfl) (fun _ _ _ h => h) (Or.inl ⟨by rfl, fun w' s0 => loadI_run (.tmp 166) rfl _ rfl _ (pair_at (Kd.C_below CK5.out s0) HQ.out).1⟩) hHeld ?ha138 ?hh138
    case ha138 =>
      simp only [Act.put, List.setIfInBounds_toArray, List.set_cons_zero, List.set_cons_succ]
      rfl
    refine one_ (i := 5) (N := some 162) #[true, true, true, true, true, true, true, true, true, true, true, false, false, false, false, false, false, false, false, false, false, false, false, false, false, false, false] rfl rfl (by kernel_rfl) (by decide) (fun K hK => ?_)
    refine goes_ Tryd.func9 (by kernel_rfl) rfl #[.int .i64 p.1] (by rfl) rfl rfl (by simp only [List.map_toArray, List.map_cons, List.map_nil]; rfl) ?_
    refine (name_calls p.1 _).mono ?_
    rintro e wn305 ⟨rfl, ln305⟩
    refine ⟨_, rfl, hK.out _ _ (below_step hHeld ln305) (fun hHeld => ?_)⟩
    clear hK K ln305
    refine norm_ (a' := ?a139) ?ha139 ?hh139
    case ha139 =>
      show Act.put _ (some 162) _ = _
      simp only [Act.put, List.setIfInBounds_toArray, List.set_cons_zero, List.set_cons_succ]
      rfl
    refine one_ (i := 11) (N := some 168) #[true, true, true, true, true, true, true, true, true, true, true, true, false, false, false, false, false, false, false, false, false, false, false, false, false, false, false] rfl rfl (by kernel_rfl) (by decide) (fun K hK => ?_)
    refine goes_ Tryd.func9 (by kernel_rfl) rfl #[.int .i64 q.1] (by rfl) rfl rfl (by simp only [List.map_toArray, List.map_cons, List.map_nil]; rfl) ?_
    refine (name_calls q.1 _).mono ?_
    rintro e wn306 ⟨rfl, ln306⟩
    refine ⟨_, rfl, hK.out _ _ (below_step hHeld ln306) (fun hHeld => ?_)⟩
    clear hK K ln306
    refine norm_ (a' := ?a140) ?ha140 ?hh140
    case ha140 =>
      show Act.put _ (some 168) _ = _
      simp only [Act.put, List.setIfInBounds_toArray, List.set_cons_zero, List.set_cons_succ]
      rfl
    refine pure_ (i := 12) (N := some 169) (v := (.bool false)) (a' := ?a141) #[true, true, true, true, true, true, true, true, true, true, true, true, true, false, false, false, false, false, false, false, false, false, false, false, false, false, false] rfl rfl (by kernel_rfl) (fun _ _ _ h => h) (Or.inl ⟨by rfl, fun w' => eqlS_run _ _ (.tmp 162) (.tmp 168) rfl rfl _ _ rfl rfl false (decide_eq_false HNN.out)⟩) ?ha141 ?hh141
    case ha141 =>
      simp only [Act.put, List.setIfInBounds_toArray, List.set_cons_zero, List.set_cons_succ]
      rfl
    refine pure_ (i := 13) (N := some 170) (v := ?v142) (a' := ?a142) #[true, true, true, true, true, true, true, true, true, true, true, true, true, true, false, false, false, false, false, false, false, false, false, false, false, false, false] rfl rfl (by kernel_rfl) (fun _ _ _ h => h) (Or.inl ⟨by rfl, ?hy142⟩) ?ha142 ?hh142
    case hy142 =>
      intro w'
      go_simp
      with_reducible rfl
    case ha142 =>
      simp only [Act.put, List.setIfInBounds_toArray, List.set_cons_zero, List.set_cons_succ]
      rfl
    refine pure_ (i := 14) (N := some 171) (v := undef) (a' := ?a143) #[true, true, true, true, true, true, true, true, true, true, true, true, true, true, true, false, false, false, false, false, false, false, false, false, false, false, false] rfl rfl (by kernel_rfl) (fun _ _ _ h => h) (Or.inr ⟨by rfl, rfl⟩) ?ha143 ?hh143
    case ha143 =>
      simp only [Act.put, List.setIfInBounds_toArray, List.set_cons_zero, List.set_cons_succ]
      rfl
    refine pure_ (i := 15) (N := some 172) (v := undef) (a' := ?a144) #[true, true, true, true, true, true, true, true, true, true, true, true, true, true, true, true, false, false, false, false, false, false, false, false, false, false, false] rfl rfl (by kernel_rfl) (fun _ _ _ h => h) (Or.inr ⟨by rfl, rfl⟩) ?ha144 ?hh144
    case ha144 =>
      simp only [Act.put, List.setIfInBounds_toArray, List.set_cons_zero, List.set_cons_succ]
      rfl
    refine pure_ (i := 16) (N := some 173) (v := undef) (a' := ?a145) #[true, true, true, true, true, true, true, true, true, true, true, true, true, true, true, true, true, false, false, false, false, false, false, false, false, false, false] rfl rfl (by kernel_rfl) (fun _ _ _ h => h) (Or.inr ⟨by rfl, rfl⟩) ?ha145 ?hh145
    case ha145 =>
      simp only [Act.put, List.setIfInBounds_toArray, List.set_cons_zero, List.set_cons_succ]
      rfl
    refine pure_ (i := 17) (N := some 174) (v := undef) (a' := ?a146) #[true, true, true, true, true, true, true, true, true, true, true, true, true, true, true, true, true, true, false, false, false, false, false, false, false, false, false] rfl rfl (by kernel_rfl) (fun _ _ _ h => h) (Or.inr ⟨by rfl, rfl⟩) ?ha146 ?hh146
    case ha146 =>
      simp only [Act.put, List.setIfInBounds_toArray, List.set_cons_zero, List.set_cons_succ]
      rfl
    refine pure_ (i := 18) (N := some 175) (v := undef) (a' := ?a147) #[true, true, true, true, true, true, true, true, true, true, true, true, true, true, true, true, true, true, true, false, false, false, false, false, false, false, false] rfl rfl (by kernel_rfl) (fun _ _ _ h => h) (Or.inr ⟨by rfl, rfl⟩) ?ha147 ?hh147
    case ha147 =>
      simp only [Act.put, List.setIfInBounds_toArray, List.set_cons_zero, List.set_cons_succ]
      rfl
    refine pure_ (i := 19) (N := some 176) (v := undef) (a' := ?a148) #[true, true, true, true, true, true, true, true, true, true, true, true, true, true, true, true, true, true, true, true, false, false, false, false, false, false, false] rfl rfl (by kernel_rfl) (fun _ _ _ h => h) (Or.inr ⟨by rfl, rfl⟩) ?ha148 ?hh148
    case ha148 =>
      simp only [Act.put, List.setIfInBounds_toArray, List.set_cons_zero, List.set_cons_succ]
      rfl
    refine pure_ (i := 20) (N := some 177) (v := undef) (a' := ?a149) #[true, true, true, true, true, true, true, true, true, true, true, true, true, true, true, true, true, true, true, true, true, false, false, false, false, false, false] rfl rfl (by kernel_rfl) (fun _ _ _ h => h) (Or.inr ⟨by rfl, rfl⟩) ?ha149 ?hh149
    case ha149 =>
      simp only [Act.put, List.setIfInBounds_toArray, List.set_cons_zero, List.set_cons_succ]
      rfl
    refine pure_ (i := 21) (N := some 178) (v := undef) (a' := ?a150) #[true, true, true, true, true, true, true, true, true, true, true, true, true, true, true, true, true, true, true, true, true, true, false, false, false, false, false] rfl rfl (by kernel_rfl) (fun _ _ _ h => h) (Or.inr ⟨by rfl, rfl⟩) ?ha150 ?hh150
    case ha150 =>
      simp only [Act.put, List.setIfInBounds_toArray, List.set_cons_zero, List.set_cons_succ]
      rfl
    refine pure_ (i := 22) (N := some 179) (v := undef) (a' := ?a151) #[true, true, true, true, true, true, true, true, true, true, true, true, true, true, true, true, true, true, true, true, true, true, true, false, false, false, false] rfl rfl (by kernel_rfl) (fun _ _ _ h => h) (Or.inr ⟨by rfl, rfl⟩) ?ha151 ?hh151
    case ha151 =>
      simp only [Act.put, List.setIfInBounds_toArray, List.set_cons_zero, List.set_cons_succ]
      rfl
    refine pure_ (i := 23) (N := some 180) (v := undef) (a' := ?a152) #[true, true, true, true, true, true, true, true, true, true, true, true, true, true, true, true, true, true, true, true, true, true, true, true, false, false, false] rfl rfl (by kernel_rfl) (fun _ _ _ h => h) (Or.inr ⟨by rfl, rfl⟩) ?ha152 ?hh152
    case ha152 =>
      simp only [Act.put, List.setIfInBounds_toArray, List.set_cons_zero, List.set_cons_succ]
      rfl
    refine pure_ (i := 24) (N := some 181) (v := undef) (a' := ?a153) #[true, true, true, true, true, true, true, true, true, true, true, true, true, true, true, true, true, true, true, true, true, true, true, true, true, false, false] rfl rfl (by kernel_rfl) (fun _ _ _ h => h) (Or.inr ⟨by rfl, rfl⟩) ?ha153 ?hh153
    case ha153 =>
      simp only [Act.put, List.setIfInBounds_toArray, List.set_cons_zero, List.set_cons_succ]
      rfl
    refine pure_ (i := 25) (N := some 182) (v := ?v154) (a' := ?a154) #[true, true, true, true, true, true, true, true, true, true, true, true, true, true, true, true, true, true, true, true, true, true, true, true, true, true, false] rfl rfl (by kernel_rfl) (fun _ _ _ h => h) (Or.inl ⟨by rfl, ?hy154⟩) ?ha154 ?hh154
    case hy154 =>
      intro w'
      go_simp
      with_reducible rfl
    case ha154 =>
      simp only [Act.put, List.setIfInBounds_toArray, List.set_cons_zero, List.set_cons_succ]
      rfl
    refine pure_ (i := 26) (N := some 26) (v := ?v155) (a' := ?a155) #[true, true, true, true, true, true, true, true, true, true, true, true, true, true, true, true, true, true, true, true, true, true, true, true, true, true, true] rfl rfl (by kernel_rfl) (fun _ _ _ h => h) (Or.inl ⟨by rfl, ?hy155⟩) ?ha155 ?hh155
    case hy155 =>
      intro w'
      go_simp
      with_reducible rfl
    case ha155 =>
      simp only [Act.put, List.setIfInBounds_toArray, List.set_cons_zero, List.set_cons_succ]
      rfl
    refine done_ (by kernel_rfl) ?_
    refine NoPanic.normal ?_
    refine ⟨rfl, ?_, ?_, hHeld⟩
    · simp only [List.map_cons, List.map_nil, putAll, Act.put, List.setIfInBounds_toArray, List.set_cons_zero, List.set_cons_succ]
      rfl
    · show _ = _
      rw [← HSAME.out]
      exact congrArg Value.bool (decide_eq_false (fun h => HNN.out h.1)).symm
end Go.Proofs.YtoigoiefnapokaaDoor.T
