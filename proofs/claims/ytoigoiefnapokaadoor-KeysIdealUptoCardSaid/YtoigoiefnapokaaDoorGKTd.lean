/- Regions of hearsaylaw18.KeysIdeal's last loop: what they leave. -/
import Derived.Test.YtoigoiefnapokaaDoorGKCode
set_option linter.unusedVariables false
set_option linter.unusedSimpArgs false
namespace Go.Proofs.YtoigoiefnapokaaDoor.T
open Go.RowKit Go.Maps Go.MuLone Go.Proofs.YtoigoiefnapokaaDoorW.PrintWords Go.Proofs.YtoigoiefnapokaaDoorW.PrintLast
set_option maxHeartbeats 32000000 in
set_option maxRecDepth 100000 in
theorem w43 {w W6 wr : World} {cK i b29 : Nat} {sec kq sq : List Int} {x y : RV} {ps aq : List Pr} {q : Pr} {adK : Addr} {b : Bool} {z0 z1 z2 z3 z4 z5 z6 z7 z8 z9 z10 z12 z13 z14 z15 z16 z17 z18 z19 z20 z21 z25 z26 z27 z28 z30 z31 z32 z33 z34 z35 z36 z37 z38 z39 z40 z41 z42 z43 z44 z45 z46 z47 z48 z49 z50 z51 z52 z53 z54 z55 z56 z57 z58 z59 z60 z61 z62 z63 z64 z65 z66 z67 z68 z69 z70 z71 z72 z73 z74 z75 z76 z77 z78 z79 z80 z81 z82 z83 z84 z85 z86 z87 z88 z89 z90 z91 z92 z93 z94 z95 z96 z97 z98 z99 z100 z101 z102 z103 z104 z105 z106 z107 z108 z109 z110 z111 z112 z113 z114 z115 z116 z117 z118 z119 z120 z121 z122 z123 z124 z125 z126 z127 z128 z129 z130 z131 z132 z133 z134 z135 z136 z137 z138 z139 z140 z141 z142 z143 z144 z145 z146 z147 z148 z149 z150 z151 z152 z153 z154 z155 z156 z157 z158 z159 z160 z161 z162 z163 z164 z165 z166 z167 z168 z169 z170 z171 z172 z173 z174 z175 z176 z177 z178 z179 z180 z181 z182 z183 z184 z185 z186 z187 z188 z189 z190 z191 z192 z193 z194 z195 z196 z197 z198 z199 z200 z201 z202 z203 z204 z205 z206 z207 z208 z209 z210 z211 z212 z213 z214 z215 z216 z217 z218 z219 z220 z221 z222 z223 z224 z225 z226 z227 z228 z229 z230 z231 z232 z233 z234 z235 z236 z237 z238 z239 z240 z241 z242 z243 z244 z245 z246 z247 z248 z249 z250 z251 z252 z253 z254 z255 z256 z257 z258 z259 z260 z261 z262 z263 z264 z265 z266 z267 z268 z269 z270 z271 z272 z273 z274 z275 z276 z277 z278 z279 z280 z281 z282 z283 z284 z285 z286 z287 z288 z289 z290 z291 z292 : Value}
    (HF : Aside0 (LaidF w)) (HL : Aside0 (LaidR w)) (HY : Aside0 (y.b = x.b ∧ True)) (K5 : Aside0 (Keys y w W6 sec ps)) (CK5 : Aside0 (kP.C W6 (some adK) aq.length aq)) (HQ : Aside0 (aq[i]? = some q)) (HQD : Aside0 (IsD q.2)) (HLTQ : Aside0 (i < aq.length)) (HKQI : Aside0 (IsD kq)) (HSQ : Aside0 (macf kq q.2 = sq)) (HSQI : Aside0 (IsD sq)) (HWA : Aside0 (decide (sf sec ps (nm q.1, q.2) = some sq) = b)) (HB953 : Aside0 (Below W6.heap.size W6 wr)) (B295 : Aside0 (wr.heap[b29]? = some (.cells (nums .u8 kq).toArray 27 (0, 0)))) :
    joined Tryd.prog (codeFirst (codeNext (codeNext (codeNext (codeIn (codeFirst (codeNext (codeIn (codeIn (codeNext (codeFirst tailCode))))))))))) [271, 272, 273, 274, 275, 276, 277, 278, 279, 280, 281, 282, 283, 284, 285, 286, 287, 288, 289, 290, 291, 292] (fun j W => j 292 = .bool false ∧ Below W6.heap.size W6 W) ⟨#[z0, z1, z2, z3, z4, z5, z6, z7, z8, z9, z10, .pointer (some ⟨x.b, 0, none⟩), z12, z13, z14, z15, z16, z17, z18, z19, z20, z21, .slice (some adK) aq.length cK, .int .i64 (i : Int), .bool b, z25, z26, z27, z28, .pointer (some ⟨b29, 0, none⟩), z30, z31, z32, z33, z34, z35, z36, z37, z38, z39, z40, z41, z42, z43, z44, z45, z46, z47, z48, z49, z50, z51, z52, z53, z54, z55, z56, z57, z58, z59, z60, z61, z62, z63, z64, z65, z66, z67, z68, z69, z70, z71, z72, z73, z74, z75, z76, z77, z78, z79, z80, z81, z82, z83, z84, z85, z86, z87, z88, z89, z90, z91, z92, z93, z94, z95, z96, z97, z98, z99, z100, z101, z102, z103, z104, z105, z106, z107, z108, z109, z110, z111, z112, z113, z114, z115, z116, z117, z118, z119, z120, z121, z122, z123, z124, z125, z126, z127, z128, z129, z130, z131, z132, z133, z134, z135, z136, z137, z138, z139, z140, z141, z142, z143, z144, z145, z146, z147, z148, z149, z150, z151, z152, z153, z154, z155, z156, z157, z158, z159, z160, z161, z162, z163, z164, z165, z166, z167, z168, z169, z170, z171, z172, z173, z174, z175, z176, z177, z178, z179, z180, z181, z182, z183, z184, z185, z186, z187, z188, z189, z190, z191, z192, z193, z194, z195, z196, z197, z198, z199, z200, z201, z202, z203, z204, z205, z206, z207, z208, z209, z210, z211, z212, z213, z214, z215, z216, z217, z218, z219, z220, z221, z222, z223, z224, z225, z226, z227, z228, z229, z230, z231, z232, z233, z234, z235, z236, z237, z238, z239, z240, z241, z242, z243, z244, z245, z246, z247, z248, z249, z250, z251, z252, z253, z254, z255, z256, z257, z258, z259, z260, z261, z262, z263, z264, z265, z266, z267, z268, z269, z270, z271, z272, z273, z274, z275, z276, z277, z278, z279, z280, z281, z282, z283, z284, z285, z286, z287, z288, z289, z290, z291, z292], []⟩ wr := by
  dsimp only [in5, tailCode, codeOf, codeNext, codeFirst, codeIn, Tryd.f3, Option.getD]
  unfold joined
  cases b with
  | true =>
    refine wp_region_noPanic ?_
    refine start_ (n := 22) (S := fun w' => Below W6.heap.size W6 w' ∧ w'.heap[b29]? = some (.cells (nums .u8 kq).toArray 27 (0, 0))) (ds := []) #[false, false, false, false, false, false, false, false, false, false, false, false, false, false, false, false, false, false, false, false, false, false] (by kernel_rfl) rfl rfl ⟨below_drew HB953.out, blk_drew B295.out⟩ (fun hHeld => ?_)
    refine pure_ (i := 0) (N := some 271) (v := ?v336) (a' := ?a336) #[true, false, false, false, false, false, false, false, false, false, false, false, false, false, false, false, false, false, false, false, false, false] rfl rfl (by kernel_rfl) (fun _ _ _ h => h) (Or.inl ⟨by rfl, ?hy336⟩) ?ha336 ?hh336
    case hy336 =>
      intro w'
      go_simp
      with_reducible rfl
    case ha336 =>
      simp only [Act.put, List.setIfInBounds_toArray, List.set_cons_zero, List.set_cons_succ]
      rfl
    refine pure_ (i := 1) (N := some 272) (v := ?v337) (a' := ?a337) #[true, true, false, false, false, false, false, false, false, false, false, false, false, false, false, false, false, false, false, false, false, false] rfl rfl (by kernel_rfl) (fun _ _ _ h => h) (Or.inl ⟨by rfl, ?hy337⟩) ?ha337 ?hh337
    case hy337 =>
      intro w'
      go_simp
      with_reducible rfl
    case ha337 =>
      simp only [Act.put, List.setIfInBounds_toArray, List.set_cons_zero, List.set_cons_succ]
      rfl
    refine pure_ (i := 2) (N := some 273) (v := ?v338) (a' := ?a338) #[true, true, true, false, false, false, false, false, false, false, false, false, false, false, false, false, false, false, false, false, false, false] rfl rfl (by kernel_rfl) (fun _ _ _ h => h) (Or.inl ⟨by rfl, ?hy338⟩) ?ha338 ?hh338
    case hy338 =>
      intro w'
      go_simp
      with_reducible rfl
    case ha338 =>
      simp only [Act.put, List.setIfInBounds_toArray, List.set_cons_zero, List.set_cons_succ]
      rfl
    refine pure_ (i := 3) (N := some 274) (v := (.pointer (some (adK.add (i * 33))))) (a' := ?a339) #[true, true, true, true, false, false, false, false, false, false, false, false, false, false, false, false, false, false, false, false, false, false] rfl rfl (by kernel_rfl) (fun _ _ _ h => h) (Or.inl ⟨by rfl, fun w' => idxP_run (.tmp 272) (.tmp 273) rfl adK aq.length cK i rfl rfl HLTQ.out⟩) ?ha339 ?hh339
    case ha339 =>
      simp only [Act.put, List.setIfInBounds_toArray, List.set_cons_zero, List.set_cons_succ]
      rfl
    refine pure_ (i := 4) (N := some 275) (v := (.pointer (some (adK.add (i * 33))))) (a' := ?a340) #[true, true, true, true, true, false, false, false, false, false, false, false, false, false, false, false, false, false, false, false, false, false] rfl rfl (by kernel_rfl) (fun _ _ _ h => h) (Or.inl ⟨by rfl, fun w' => fld0_run (.tmp 274) rfl _ rfl⟩) ?ha340 ?hh340
    case ha340 =>
      simp only [Act.put, List.setIfInBounds_toArray, List.set_cons_zero, List.set_cons_succ]
      rfl
    refine take_ (i := 5) (N := some 276) (v := (.int .i64 q.1)) (a' := ?a341) #[true, true, true, true, true, true, false, false, false, false, false, false, false, false, false, false, false, false, false, false, false, false] rfl rfl (by kernel_rfl) (fun _ _ _ h => h) (Or.inl ⟨by rfl, fun w' s0 => loadI_run (.tmp 275) rfl _ rfl _ (pair_at (Kd.C_below CK5.out s0.1) HQ.out).1⟩) hHeld ?ha341 ?hh341
    case ha341 =>
      simp only [Act.put, List.setIfInBounds_toArray, List.set_cons_zero, List.set_cons_succ]
      rfl
    refine pure_ (i := 7) (N := some 278) (v := ?v342) (a' := ?a342) #[true, true, true, true, true, true, false, true, false, false, false, false, false, false, false, false, false, false, false, false, false, false] rfl rfl (by kernel_rfl) (fun _ _ _ h => h) (Or.inl ⟨by rfl, ?hy342⟩) ?ha342 ?hh342
    case hy342 =>
      intro w'
      go_simp
      with_reducible rfl
    case ha342 =>
      simp only [Act.put, List.setIfInBounds_toArray, List.set_cons_zero, List.set_cons_succ]
      rfl
    refine pure_ (i := 8) (N := some 279) (v := ?v343) (a' := ?a343) #[true, true, true, true, true, true, false, true, true, false, false, false, false, false, false, false, false, false, false, false, false, false] rfl rfl (by kernel_rfl) (fun _ _ _ h => h) (Or.inl ⟨by rfl, ?hy343⟩) ?ha343 ?hh343
    case hy343 =>
      intro w'
      go_simp
      with_reducible rfl
    case ha343 =>
      simp only [Act.put, List.setIfInBounds_toArray, List.set_cons_zero, List.set_cons_succ]
      rfl
    refine pure_ (i := 9) (N := some 280) (v := (.pointer (some (adK.add (i * 33))))) (a' := ?a344) #[true, true, true, true, true, true, false, true, true, true, false, false, false, false, false, false, false, false, false, false, false, false] rfl rfl (by kernel_rfl) (fun _ _ _ h => h) (Or.inl ⟨by rfl, fun w' => idxP_run (.tmp 278) (.tmp 279) rfl adK aq.length cK i rfl rfl HLTQ.out⟩) ?ha344 ?hh344
    case ha344 =>
      simp only [Act.put, List.setIfInBounds_toArray, List.set_cons_zero, List.set_cons_succ]
      rfl
    refine pure_ (i := 10) (N := some 281) (v := (.pointer (some (adK.add (i * 33 + 1))))) (a' := ?a345) #[true, true, true, true, true, true, false, true, true, true, true, false, false, false, false, false, false, false, false, false, false, false] rfl rfl (by kernel_rfl) (fun _ _ _ h => h) (Or.inl ⟨by rfl, fun w' => fld1_run (.tmp 280) rfl adK i rfl⟩) ?ha345 ?hh345
    case ha345 =>
      simp only [Act.put, List.setIfInBounds_toArray, List.set_cons_zero, List.set_cons_succ]
      rfl
    refine take_ (i := 11) (N := some 282) (v := (.agg (nums .u8 q.2).toArray)) (a' := ?a346) #[true, true, true, true, true, true, false, true, true, true, true, true, false, false, false, false, false, false, false, false, false, false] rfl rfl (by kernel_rfl) (fun _ _ _ h => h) (Or.inl ⟨by rfl, fun w' s0 => loadD_run (.tmp 281) rfl _ rfl _ (pair_at (Kd.C_below CK5.out s0.1) HQ.out).2.2 (pair_at (Kd.C_below CK5.out s0.1) HQ.out).2.1⟩) hHeld ?ha346 ?hh346
    case ha346 =>
      simp only [Act.put, List.setIfInBounds_toArray, List.set_cons_zero, List.set_cons_succ]
      rfl
    refine pure_ (i := 12) (N := some 283) (v := ?v347) (a' := ?a347) #[true, true, true, true, true, true, false, true, true, true, true, true, true, false, false, false, false, false, false, false, false, false] rfl rfl (by kernel_rfl) (fun _ _ _ h => h) (Or.inl ⟨by rfl, ?hy347⟩) ?ha347 ?hh347
    case hy347 =>
      intro w'
      go_simp
      with_reducible rfl
    case ha347 =>
      simp only [Act.put, List.setIfInBounds_toArray, List.set_cons_zero, List.set_cons_succ]
      rfl
    refine pure_ (i := 13) (N := some 284) (v := ?v348) (a' := ?a348) #[true, true, true, true, true, true, false, true, true, true, true, true, true, true, false, false, false, false, false, false, false, false] rfl rfl (by kernel_rfl) (fun _ _ _ h => h) (Or.inl ⟨by rfl, ?hy348⟩) ?ha348 ?hh348
    case hy348 =>
      intro w'
      go_simp
      with_reducible rfl
    case ha348 =>
      simp only [Act.put, List.setIfInBounds_toArray, List.set_cons_zero, List.set_cons_succ]
      rfl
    refine pure_ (i := 14) (N := some 285) (v := ?v349) (a' := ?a349) #[true, true, true, true, true, true, false, true, true, true, true, true, true, true, true, false, false, false, false, false, false, false] rfl rfl (by kernel_rfl) (fun _ _ _ h => h) (Or.inl ⟨by rfl, ?hy349⟩) ?ha349 ?hh349
    case hy349 =>
      intro w'
      go_simp
      with_reducible rfl
    case ha349 =>
      simp only [Act.put, List.setIfInBounds_toArray, List.set_cons_zero, List.set_cons_succ]
      rfl
    refine pure_ (i := 15) (N := some 286) (v := (.pointer (some (adK.add (i * 33))))) (a' := ?a350) #[true, true, true, true, true, true, false, true, true, true, true, true, true, true, true, true, false, false, false, false, false, false] rfl rfl (by kernel_rfl) (fun _ _ _ h => h) (Or.inl ⟨by rfl, fun w' => idxP_run (.tmp 284) (.tmp 285) rfl adK aq.length cK i rfl rfl HLTQ.out⟩) ?ha350 ?hh350
    case ha350 =>
      simp only [Act.put, List.setIfInBounds_toArray, List.set_cons_zero, List.set_cons_succ]
      rfl
    refine pure_ (i := 16) (N := some 287) (v := (.pointer (some (adK.add (i * 33 + 1))))) (a' := ?a351) #[true, true, true, true, true, true, false, true, true, true, true, true, true, true, true, true, true, false, false, false, false, false] rfl rfl (by kernel_rfl) (fun _ _ _ h => h) (Or.inl ⟨by rfl, fun w' => fld1_run (.tmp 286) rfl adK i rfl⟩) ?ha351 ?hh351
    case ha351 =>
      simp only [Act.put, List.setIfInBounds_toArray, List.set_cons_zero, List.set_cons_succ]
      rfl
    refine pure_ (i := 17) (N := some 288) (v := ?v352) (a' := ?a352) #[true, true, true, true, true, true, false, true, true, true, true, true, true, true, true, true, true, true, false, false, false, false] rfl rfl (by kernel_rfl) (fun _ _ _ h => h) (Or.inl ⟨by rfl, ?hy352⟩) ?ha352 ?hh352
    case hy352 =>
      intro w'
      go_simp
      with_reducible rfl
    case ha352 =>
      simp only [Act.put, List.setIfInBounds_toArray, List.set_cons_zero, List.set_cons_succ]
      rfl
    refine pure_ (i := 20) (N := some 291) (v := ?v353) (a' := ?a353) #[true, true, true, true, true, true, false, true, true, true, true, true, true, true, true, true, true, true, false, false, true, false] rfl rfl (by kernel_rfl) (fun _ _ _ h => h) (Or.inl ⟨by rfl, ?hy353⟩) ?ha353 ?hh353
    case hy353 =>
      intro w'
      go_simp
      with_reducible rfl
    case ha353 =>
      simp only [Act.put, List.setIfInBounds_toArray, List.set_cons_zero, List.set_cons_succ]
      rfl
    refine one_ (i := 6) (N := some 277) #[true, true, true, true, true, true, true, true, true, true, true, true, true, true, true, true, true, true, false, false, true, false] rfl rfl (by kernel_rfl) (by decide) (fun K hK => ?_)
    refine goes_ Tryd.func9 (by kernel_rfl) rfl #[.int .i64 q.1] (by rfl) rfl rfl (by simp only [List.map_toArray, List.map_cons, List.map_nil]; rfl) ?_
    refine (name_calls q.1 _).mono ?_
    rintro e wn701 ⟨rfl, ln701⟩
    refine ⟨_, rfl, hK.out _ _ ⟨below_step hHeld.1 ln701, blk_below hHeld.2 ln701⟩ (fun hHeld => ?_)⟩
    clear hK K ln701
    refine norm_ (a' := ?a354) ?ha354 ?hh354
    case ha354 =>
      show Act.put _ (some 277) _ = _
      simp only [Act.put, List.setIfInBounds_toArray, List.set_cons_zero, List.set_cons_succ]
      rfl
    refine one_ (i := 18) (N := some 289) #[true, true, true, true, true, true, true, true, true, true, true, true, true, true, true, true, true, true, true, false, true, false] rfl rfl (by kernel_rfl) (by decide) (fun K hK => ?_)
    refine goes_ Tryd.func8 (by kernel_rfl) rfl #[.slice (some ⟨b29, 0, none⟩) 32 32, .slice (some (adK.add (i * 33 + 1))) 32 32] (by rfl) rfl rfl (by simp only [List.map_toArray, List.map_cons, List.map_nil]; rfl) ?_
    refine (mac_callsN _ _ _ 32 32 32 32 kq q.2 (HF.out.up (K5.out.low hHeld.1).below) (HL.out.up (K5.out.low hHeld.1).below) (row_reads hHeld.2 (by rw [HKQI.out.1]; decide)) (by rw [HKQI.out.1]; decide) (by rw [HKQI.out.1]; decide) (pair_reads (Kd.C_below CK5.out hHeld.1) HQ.out) (by rw [HQD.out.1]; decide) (by rw [HQD.out.1]; decide) HKQI.out.1 HQD.out.1).mono ?_
    rintro e w980 ⟨rfl, l980⟩
    rw [HSQ.out]
    refine ⟨_, rfl, hK.out _ _ ⟨below_step hHeld.1 l980, blk_below hHeld.2 l980⟩ (fun hHeld => ?_)⟩
    clear hK K l980
    refine norm_ (a' := ?a355) ?ha355 ?hh355
    case ha355 =>
      show Act.put _ (some 289) _ = _
      simp only [Act.put, List.setIfInBounds_toArray, List.set_cons_zero, List.set_cons_succ]
      rfl
    refine one_ (i := 19) (N := some 290) #[true, true, true, true, true, true, true, true, true, true, true, true, true, true, true, true, true, true, true, true, true, false] rfl rfl (by kernel_rfl) (by decide) (fun K hK => ?_)
    refine goes_ Tryd.func10 (by kernel_rfl) rfl #[.pointer (some ⟨x.b, 0, none⟩), .string (nm q.1), .agg (nums .u8 q.2).toArray, .agg (nums .u8 sq).toArray] (by rfl) rfl rfl (by simp only [List.map_toArray, List.map_cons, List.map_nil]; rfl) ?_
    refine (show Calls Tryd.prog 10 #[.pointer (some ⟨x.b, 0, none⟩), .string (nm q.1), .agg (nums .u8 q.2).toArray, .agg (nums .u8 sq).toArray] _ _ from (K5.out.low hHeld.1).verifyB HY.out.1 q.1 q.2 sq HQD.out HSQI.out).mono ?_
    rintro e wv702 ⟨rfl, lv702⟩
    rw [show decide (sf sec ps (nm q.1, q.2) = some sq) = true from HWA.out]
    refine ⟨_, rfl, hK.out _ _ ⟨below_step hHeld.1 lv702, blk_below hHeld.2 lv702⟩ (fun hHeld => ?_)⟩
    clear hK K lv702
    refine norm_ (a' := ?a356) ?ha356 ?hh356
    case ha356 =>
      show Act.put _ (some 290) _ = _
      simp only [Act.put, List.setIfInBounds_toArray, List.set_cons_zero, List.set_cons_succ]
      rfl
    refine pure_ (i := 21) (N := some 292) (v := ?v357) (a' := ?a357) #[true, true, true, true, true, true, true, true, true, true, true, true, true, true, true, true, true, true, true, true, true, true] rfl rfl (by kernel_rfl) (fun _ _ _ h => h) (Or.inl ⟨by rfl, ?hy357⟩) ?ha357 ?hh357
    case hy357 =>
      intro w'
      go_simp
      with_reducible rfl
    case ha357 =>
      simp only [Act.put, List.setIfInBounds_toArray, List.set_cons_zero, List.set_cons_succ]
      rfl
    refine done_ (by kernel_rfl) ?_
    refine NoPanic.normal ?_
    exact ⟨rfl, by (simp only [List.map_cons, List.map_nil, putAll, Act.put, List.setIfInBounds_toArray, List.set_cons_zero, List.set_cons_succ]; rfl), rfl, hHeld.1⟩
  | false =>
    refine wp_region_noPanic ?_
    refine start_ (n := 22) (S := fun w' => Below W6.heap.size W6 w' ∧ w'.heap[b29]? = some (.cells (nums .u8 kq).toArray 27 (0, 0))) (ds := []) #[false, false, false, false, false, false, false, false, false, false, false, false, false, false, false, false, false, false, false, false, false, false] (by kernel_rfl) rfl rfl ⟨below_drew HB953.out, blk_drew B295.out⟩ (fun hHeld => ?_)
    refine pure_ (i := 0) (N := some 271) (v := ?v358) (a' := ?a358) #[true, false, false, false, false, false, false, false, false, false, false, false, false, false, false, false, false, false, false, false, false, false] rfl rfl (by kernel_rfl) (fun _ _ _ h => h) (Or.inl ⟨by rfl, ?hy358⟩) ?ha358 ?hh358
    case hy358 =>
      intro w'
      go_simp
      with_reducible rfl
    case ha358 =>
      simp only [Act.put, List.setIfInBounds_toArray, List.set_cons_zero, List.set_cons_succ]
      rfl
    refine pure_ (i := 1) (N := some 272) (v := ?v359) (a' := ?a359) #[true, true, false, false, false, false, false, false, false, false, false, false, false, false, false, false, false, false, false, false, false, false] rfl rfl (by kernel_rfl) (fun _ _ _ h => h) (Or.inl ⟨by rfl, ?hy359⟩) ?ha359 ?hh359
    case hy359 =>
      intro w'
      go_simp
      with_reducible rfl
    case ha359 =>
      simp only [Act.put, List.setIfInBounds_toArray, List.set_cons_zero, List.set_cons_succ]
      rfl
    refine pure_ (i := 2) (N := some 273) (v := ?v360) (a' := ?a360) #[true, true, true, false, false, false, false, false, false, false, false, false, false, false, false, false, false, false, false, false, false, false] rfl rfl (by kernel_rfl) (fun _ _ _ h => h) (Or.inl ⟨by rfl, ?hy360⟩) ?ha360 ?hh360
    case hy360 =>
      intro w'
      go_simp
      with_reducible rfl
    case ha360 =>
      simp only [Act.put, List.setIfInBounds_toArray, List.set_cons_zero, List.set_cons_succ]
      rfl
    refine pure_ (i := 3) (N := some 274) (v := (.pointer (some (adK.add (i * 33))))) (a' := ?a361) #[true, true, true, true, false, false, false, false, false, false, false, false, false, false, false, false, false, false, false, false, false, false] rfl rfl (by kernel_rfl) (fun _ _ _ h => h) (Or.inl ⟨by rfl, fun w' => idxP_run (.tmp 272) (.tmp 273) rfl adK aq.length cK i rfl rfl HLTQ.out⟩) ?ha361 ?hh361
    case ha361 =>
      simp only [Act.put, List.setIfInBounds_toArray, List.set_cons_zero, List.set_cons_succ]
      rfl
    refine pure_ (i := 4) (N := some 275) (v := (.pointer (some (adK.add (i * 33))))) (a' := ?a362) #[true, true, true, true, true, false, false, false, false, false, false, false, false, false, false, false, false, false, false, false, false, false] rfl rfl (by kernel_rfl) (fun _ _ _ h => h) (Or.inl ⟨by rfl, fun w' => fld0_run (.tmp 274) rfl _ rfl⟩) ?ha362 ?hh362
    case ha362 =>
      simp only [Act.put, List.setIfInBounds_toArray, List.set_cons_zero, List.set_cons_succ]
      rfl
    refine take_ (i := 5) (N := some 276) (v := (.int .i64 q.1)) (a' := ?a363) #[true, true, true, true, true, true, false, false, false, false, false, false, false, false, false, false, false, false, false, false, false, false] rfl rfl (by kernel_rfl) (fun _ _ _ h => h) (Or.inl ⟨by rfl, fun w' s0 => loadI_run (.tmp 275) rfl _ rfl _ (pair_at (Kd.C_below CK5.out s0.1) HQ.out).1⟩) hHeld ?ha363 ?hh363
    case ha363 =>
      simp only [Act.put, List.setIfInBounds_toArray, List.set_cons_zero, List.set_cons_succ]
      rfl
    refine pure_ (i := 7) (N := some 278) (v := ?v364) (a' := ?a364) #[true, true, true, true, true, true, false, true, false, false, false, false, false, false, false, false, false, false, false, false, false, false] rfl rfl (by kernel_rfl) (fun _ _ _ h => h) (Or.inl ⟨by rfl, ?hy364⟩) ?ha364 ?hh364
    case hy364 =>
      intro w'
      go_simp
      with_reducible rfl
    case ha364 =>
      simp only [Act.put, List.setIfInBounds_toArray, List.set_cons_zero, List.set_cons_succ]
      rfl
    refine pure_ (i := 8) (N := some 279) (v := ?v365) (a' := ?a365) #[true, true, true, true, true, true, false, true, true, false, false, false, false, false, false, false, false, false, false, false, false, false] rfl rfl (by kernel_rfl) (fun _ _ _ h => h) (Or.inl ⟨by rfl, ?hy365⟩) ?ha365 ?hh365
    case hy365 =>
      intro w'
      go_simp
      with_reducible rfl
    case ha365 =>
      simp only [Act.put, List.setIfInBounds_toArray, List.set_cons_zero, List.set_cons_succ]
      rfl
    refine pure_ (i := 9) (N := some 280) (v := (.pointer (some (adK.add (i * 33))))) (a' := ?a366) #[true, true, true, true, true, true, false, true, true, true, false, false, false, false, false, false, false, false, false, false, false, false] rfl rfl (by kernel_rfl) (fun _ _ _ h => h) (Or.inl ⟨by rfl, fun w' => idxP_run (.tmp 278) (.tmp 279) rfl adK aq.length cK i rfl rfl HLTQ.out⟩) ?ha366 ?hh366
    case ha366 =>
      simp only [Act.put, List.setIfInBounds_toArray, List.set_cons_zero, List.set_cons_succ]
      rfl
    refine pure_ (i := 10) (N := some 281) (v := (.pointer (some (adK.add (i * 33 + 1))))) (a' := ?a367) #[true, true, true, true, true, true, false, true, true, true, true, false, false, false, false, false, false, false, false, false, false, false] rfl rfl (by kernel_rfl) (fun _ _ _ h => h) (Or.inl ⟨by rfl, fun w' => fld1_run (.tmp 280) rfl adK i rfl⟩) ?ha367 ?hh367
    case ha367 =>
      simp only [Act.put, List.setIfInBounds_toArray, List.set_cons_zero, List.set_cons_succ]
      rfl
    refine take_ (i := 11) (N := some 282) (v := (.agg (nums .u8 q.2).toArray)) (a' := ?a368) #[true, true, true, true, true, true, false, true, true, true, true, true, false, false, false, false, false, false, false, false, false, false] rfl rfl (by kernel_rfl) (fun _ _ _ h => h) (Or.inl ⟨by rfl, fun w' s0 => loadD_run (.tmp 281) rfl _ rfl _ (pair_at (Kd.C_below CK5.out s0.1) HQ.out).2.2 (pair_at (Kd.C_below CK5.out s0.1) HQ.out).2.1⟩) hHeld ?ha368 ?hh368
    case ha368 =>
      simp only [Act.put, List.setIfInBounds_toArray, List.set_cons_zero, List.set_cons_succ]
      rfl
    refine pure_ (i := 12) (N := some 283) (v := ?v369) (a' := ?a369) #[true, true, true, true, true, true, false, true, true, true, true, true, true, false, false, false, false, false, false, false, false, false] rfl rfl (by kernel_rfl) (fun _ _ _ h => h) (Or.inl ⟨by rfl, ?hy369⟩) ?ha369 ?hh369
    case hy369 =>
      intro w'
      go_simp
      with_reducible rfl
    case ha369 =>
      simp only [Act.put, List.setIfInBounds_toArray, List.set_cons_zero, List.set_cons_succ]
      rfl
    refine pure_ (i := 13) (N := some 284) (v := ?v370) (a' := ?a370) #[true, true, true, true, true, true, false, true, true, true, true, true, true, true, false, false, false, false, false, false, false, false] rfl rfl (by kernel_rfl) (fun _ _ _ h => h) (Or.inl ⟨by rfl, ?hy370⟩) ?ha370 ?hh370
    case hy370 =>
      intro w'
      go_simp
      with_reducible rfl
    case ha370 =>
      simp only [Act.put, List.setIfInBounds_toArray, List.set_cons_zero, List.set_cons_succ]
      rfl
    refine pure_ (i := 14) (N := some 285) (v := ?v371) (a' := ?a371) #[true, true, true, true, true, true, false, true, true, true, true, true, true, true, true, false, false, false, false, false, false, false] rfl rfl (by kernel_rfl) (fun _ _ _ h => h) (Or.inl ⟨by rfl, ?hy371⟩) ?ha371 ?hh371
    case hy371 =>
      intro w'
      go_simp
      with_reducible rfl
    case ha371 =>
      simp only [Act.put, List.setIfInBounds_toArray, List.set_cons_zero, List.set_cons_succ]
      rfl
    refine pure_ (i := 15) (N := some 286) (v := (.pointer (some (adK.add (i * 33))))) (a' := ?a372) #[true, true, true, true, true, true, false, true, true, true, true, true, true, true, true, true, false, false, false, false, false, false] rfl rfl (by kernel_rfl) (fun _ _ _ h => h) (Or.inl ⟨by rfl, fun w' => idxP_run (.tmp 284) (.tmp 285) rfl adK aq.length cK i rfl rfl HLTQ.out⟩) ?ha372 ?hh372
    case ha372 =>
      simp only [Act.put, List.setIfInBounds_toArray, List.set_cons_zero, List.set_cons_succ]
      rfl
    refine pure_ (i := 16) (N := some 287) (v := (.pointer (some (adK.add (i * 33 + 1))))) (a' := ?a373) #[true, true, true, true, true, true, false, true, true, true, true, true, true, true, true, true, true, false, false, false, false, false] rfl rfl (by kernel_rfl) (fun _ _ _ h => h) (Or.inl ⟨by rfl, fun w' => fld1_run (.tmp 286) rfl adK i rfl⟩) ?ha373 ?hh373
    case ha373 =>
      simp only [Act.put, List.setIfInBounds_toArray, List.set_cons_zero, List.set_cons_succ]
      rfl
    refine pure_ (i := 17) (N := some 288) (v := ?v374) (a' := ?a374) #[true, true, true, true, true, true, false, true, true, true, true, true, true, true, true, true, true, true, false, false, false, false] rfl rfl (by kernel_rfl) (fun _ _ _ h => h) (Or.inl ⟨by rfl, ?hy374⟩) ?ha374 ?hh374
    case hy374 =>
      intro w'
      go_simp
      with_reducible rfl
    case ha374 =>
      simp only [Act.put, List.setIfInBounds_toArray, List.set_cons_zero, List.set_cons_succ]
      rfl
    refine pure_ (i := 20) (N := some 291) (v := ?v375) (a' := ?a375) #[true, true, true, true, true, true, false, true, true, true, true, true, true, true, true, true, true, true, false, false, true, false] rfl rfl (by kernel_rfl) (fun _ _ _ h => h) (Or.inl ⟨by rfl, ?hy375⟩) ?ha375 ?hh375
    case hy375 =>
      intro w'
      go_simp
      with_reducible rfl
    case ha375 =>
      simp only [Act.put, List.setIfInBounds_toArray, List.set_cons_zero, List.set_cons_succ]
      rfl
    refine one_ (i := 6) (N := some 277) #[true, true, true, true, true, true, true, true, true, true, true, true, true, true, true, true, true, true, false, false, true, false] rfl rfl (by kernel_rfl) (by decide) (fun K hK => ?_)
    refine goes_ Tryd.func9 (by kernel_rfl) rfl #[.int .i64 q.1] (by rfl) rfl rfl (by simp only [List.map_toArray, List.map_cons, List.map_nil]; rfl) ?_
    refine (name_calls q.1 _).mono ?_
    rintro e wn701 ⟨rfl, ln701⟩
    refine ⟨_, rfl, hK.out _ _ ⟨below_step hHeld.1 ln701, blk_below hHeld.2 ln701⟩ (fun hHeld => ?_)⟩
    clear hK K ln701
    refine norm_ (a' := ?a376) ?ha376 ?hh376
    case ha376 =>
      show Act.put _ (some 277) _ = _
      simp only [Act.put, List.setIfInBounds_toArray, List.set_cons_zero, List.set_cons_succ]
      rfl
    refine one_ (i := 18) (N := some 289) #[true, true, true, true, true, true, true, true, true, true, true, true, true, true, true, true, true, true, true, false, true, false] rfl rfl (by kernel_rfl) (by decide) (fun K hK => ?_)
    refine goes_ Tryd.func8 (by kernel_rfl) rfl #[.slice (some ⟨b29, 0, none⟩) 32 32, .slice (some (adK.add (i * 33 + 1))) 32 32] (by rfl) rfl rfl (by simp only [List.map_toArray, List.map_cons, List.map_nil]; rfl) ?_
    refine (mac_callsN _ _ _ 32 32 32 32 kq q.2 (HF.out.up (K5.out.low hHeld.1).below) (HL.out.up (K5.out.low hHeld.1).below) (row_reads hHeld.2 (by rw [HKQI.out.1]; decide)) (by rw [HKQI.out.1]; decide) (by rw [HKQI.out.1]; decide) (pair_reads (Kd.C_below CK5.out hHeld.1) HQ.out) (by rw [HQD.out.1]; decide) (by rw [HQD.out.1]; decide) HKQI.out.1 HQD.out.1).mono ?_
    rintro e w980 ⟨rfl, l980⟩
    rw [HSQ.out]
    refine ⟨_, rfl, hK.out _ _ ⟨below_step hHeld.1 l980, blk_below hHeld.2 l980⟩ (fun hHeld => ?_)⟩
    clear hK K l980
    refine norm_ (a' := ?a377) ?ha377 ?hh377
    case ha377 =>
      show Act.put _ (some 289) _ = _
      simp only [Act.put, List.setIfInBounds_toArray, List.set_cons_zero, List.set_cons_succ]
      rfl
    refine one_ (i := 19) (N := some 290) #[true, true, true, true, true, true, true, true, true, true, true, true, true, true, true, true, true, true, true, true, true, false] rfl rfl (by kernel_rfl) (by decide) (fun K hK => ?_)
    refine goes_ Tryd.func10 (by kernel_rfl) rfl #[.pointer (some ⟨x.b, 0, none⟩), .string (nm q.1), .agg (nums .u8 q.2).toArray, .agg (nums .u8 sq).toArray] (by rfl) rfl rfl (by simp only [List.map_toArray, List.map_cons, List.map_nil]; rfl) ?_
    refine (show Calls Tryd.prog 10 #[.pointer (some ⟨x.b, 0, none⟩), .string (nm q.1), .agg (nums .u8 q.2).toArray, .agg (nums .u8 sq).toArray] _ _ from (K5.out.low hHeld.1).verifyB HY.out.1 q.1 q.2 sq HQD.out HSQI.out).mono ?_
    rintro e wv702 ⟨rfl, lv702⟩
    rw [show decide (sf sec ps (nm q.1, q.2) = some sq) = false from HWA.out]
    refine ⟨_, rfl, hK.out _ _ ⟨below_step hHeld.1 lv702, blk_below hHeld.2 lv702⟩ (fun hHeld => ?_)⟩
    clear hK K lv702
    refine norm_ (a' := ?a378) ?ha378 ?hh378
    case ha378 =>
      show Act.put _ (some 290) _ = _
      simp only [Act.put, List.setIfInBounds_toArray, List.set_cons_zero, List.set_cons_succ]
      rfl
    refine pure_ (i := 21) (N := some 292) (v := ?v379) (a' := ?a379) #[true, true, true, true, true, true, true, true, true, true, true, true, true, true, true, true, true, true, true, true, true, true] rfl rfl (by kernel_rfl) (fun _ _ _ h => h) (Or.inl ⟨by rfl, ?hy379⟩) ?ha379 ?hh379
    case hy379 =>
      intro w'
      go_simp
      with_reducible rfl
    case ha379 =>
      simp only [Act.put, List.setIfInBounds_toArray, List.set_cons_zero, List.set_cons_succ]
      rfl
    refine done_ (by kernel_rfl) ?_
    refine NoPanic.normal ?_
    exact ⟨rfl, by (simp only [List.map_cons, List.map_nil, putAll, Act.put, List.setIfInBounds_toArray, List.set_cons_zero, List.set_cons_succ]; rfl), rfl, hHeld.1⟩
end Go.Proofs.YtoigoiefnapokaaDoor.T
