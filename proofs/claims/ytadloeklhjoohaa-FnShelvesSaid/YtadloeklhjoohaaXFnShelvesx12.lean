/- What functions of the program compute, as plain Lean functions, and that Go's calls come to just that: written by wip/tools/xprint.py for the law FnShelves. -/
import Derived.Test.YtadloeklhjoohaaXFnShelvesx0
import Derived.Test.YtadloeklhjoohaaXFnShelvesx1
import Derived.Test.YtadloeklhjoohaaXFnShelvesx3
import Derived.Test.YtadloeklhjoohaaXFnShelvesx4
import Derived.Test.YtadloeklhjoohaaXFnShelvesx5
import Derived.Test.YtadloeklhjoohaaXFnShelvesx6
import Derived.Test.YtadloeklhjoohaaXFnShelvesx7
import Derived.Test.YtadloeklhjoohaaXFnShelvesx8
import Derived.Test.YtadloeklhjoohaaXFnShelvesx9
import Derived.Test.YtadloeklhjoohaaXFnShelvesx10
import Derived.Test.YtadloeklhjoohaaXFnShelvesx11
namespace Go.Proofs.Ytadloeklhjoohaa.XFnShelves
open Go.RowKit Go.Proofs.YtadloeklhjoohaaW.PrintWords Go.Proofs.YtadloeklhjoohaaW.PrintLast Go.Proofs.YtadloeklhjoohaaW.PrintMore
attribute [local go_sem] max2_int min2_int max_two min_two max_three min_three max_four min_four   -- for this text's walks alone
set_option linter.unusedVariables false
set_option linter.unusedSimpArgs false

/-! ### laws_FnShelves: function 4 -/
set_option maxHeartbeats 8000000 in
set_option maxRecDepth 100000 in
theorem laws_FnShelves.calls.part5 : laws_FnShelves.calls.part4.1 := by
 intro k A0 c0 l0 w hu44 HR0 HC0 t211 t212 A3 t215 t216 A4 t219 t220 A5 t223 A6 t226 A7 w8 co9 w10 w11 v221 w12 w13 _ _ _ u13 _ _ _ _ _ _ _ _ _ _ _ x11_1 x50_1 _ k1 _ HK1 _ _ _ _ _ _ _ _ _ _ _ _ _ _ _ _ _ _ _ _ _ _ _ _ _ _ _ _ _ _ _ _ _ _ _ _ _ _ _ _ _ _ _ _ _ _ _ _ _ _ _ _ _ _ _ _ _ _ _ _ _ _ _ _ _ _ _ _ _ _ _ _ _ _ _ _ _ _ _ _ _ _ _ _ _ _ _ _ _ _ _ _ _ _ _ _ _ _ _ _ _ _ _ _ _ _ _ _ _ _ _ _ _ _ _ _ _ _ _ _ _ _ _ _ _ _ _ _ _ _ _ _ _ _ _ _ _ _ _ _ _ _ _ _ _ _ _ _ _ _ _ _ _ _ _ _ _ _ _ _ _ _ _ _ _ _ _ _ _ _ _ _ _ _ _ _ _ _ _ _ _ _ _ _ _ _ _ _ _ _ _ _ _ _ _ _ _ _ _ _ _ _ _ _ _ _ _ _ _ _ _ _ _ _ _ _ _ _ _ _ _ _ _ _ _ _ _ _ _ _ _ _ _ _ _ _ _ _ _ _ _ _ _ _ _ _ _ _ _ _ _ _ _ _ _ _ _ _ _ _ _ _ _ _ _ _ _ _ _ _ _ _ _ _ _ _ _ _ _ _ _ _ _ _ _ _ _ u318 _ _ _ _ _ _ _ _ _ _ _ _ _ _ _ _ _ _ _ _ _ _ _ _ _ _ _ _ _ _ _ _ _ _ _ _ _ _ _ _ _ _ _ _ _ _ _ _ _ _ _ _ _ _ _ _ _ _ _ _ _ _ _ _ _ _ _ _ _ _ _ _ _ _ _ _ _ _ _ _ kj18 HJ18 y234 Ny234 v235 w81 _ Ao83 co83 HO225 _ _ HO236 _ _ _ u14 u15 u16 _ _ _ _ _ _ _ _ _ _ _ _ _ _ _ _ _ _ _ _ _ _ _ _ _ _ _ _ _ _ _ _ _ _ _ _ _ _ _ _ _ _ _ _ _ _ _ _ _ _ _ _ _ _ _ _ _ _ _ _ _ _ _ _ _ _ _ _ _ _ _ _ _ _ _ x14_3 x134_3 HO_9 HO_14 _ k3 _ HK3 _ _ _ _ u17 u18 _ _ _ _ _ _ _ _ _ _ _ _ _ _ _ _ _ _ _ _ _ _ _ _ _ _ _ _ _ _ _ _ _ _ _ _ _ _ _ _ _ _ _ _ _ _ _ _ _ _ _ _ _ _ _ _ _ _ _ _ _ _ _ _ _ _ _ _ _ _ _ _ _ _ _ _ _ _ _ _ _ _ _ _ _ _ _ _ _ x210_4 k4 _ HK4 t272 t273 A164 _ w166 _ wc u23 u24 u25 u26 u27 u28 u29 u30 u31 u32 u33 u34 u35 u36 u37 u38 u39 u40 u41 u42 u43 u44 u45 u46 u47 u51 u52 u53 u54 u55 u56 u57 u58 u59 u60 u61 u62 u63 u64 u65 u66 u67 u68 u69 u70 u71 u72 u73 u74 u75 u76 u77 u78 u79 u80 u81 u82 u83 u84 u85 u86 u87 u88 u89 u90 u91 u92 u93 u94 u95 u96 u97 u98 u99 u100 u101 u102 u103 u104 u105 u106 u107 u108 u109 u110 u111 u112 u113 u114 u115 u116 u117 u118 u119 u120 u121 u122 u123 u124 u125 u126 u127 u128 u129 u130 u131 u135 u136 u137 u138 u139 u140 u141 u142 u143 u144 u145 u146 u147 u148 u149 u150 u151 u152 u153 u154 u155 u156 u157 u158 u159 u160 u161 u162 u163 u164 u165 u166 u167 u168 u169 u170 u171 u172 u173 u174 u175 u176 u177 u178 u179 u180 u181 u182 u183 u184 u185 u186 u187 u188 u189 u190 u191 u192 u193 u194 u195 u196 u197 u198 u199 u200 u201 u202 u203 u204 u205 u206 u207 u211 u212 u213 u214 u215 u216 u217 u218 u219 u220 u221 u222 u223 u224 u225 u226 u227 u228 u229 u230 u231 u232 u233 u234 u235 u236 u237 u238 u239 u240 u241 u242 u243 u244 u245 u246 u247 u248 u249 u250 u251 u252 u253 u254 u255 u256 u257 u258 u259 u260 u261 u262 u263 u264 u265 u266 u267 u268 u269 u270 u271 u272 u273 u274 u275 u276 u277 u278 u279 u280 u281 u282 u283 u284 u285 u286 u287 u288 u289 u290 u291 u292 u293 u294 u295 u296 u297 u298 u299 u300 u301 u302 u303 u304 u305 u306 u307 u308 u309 u310 u311 u312 u313 u314 u315 u316 u317 _ _ _ _ _ _ _ _ _ _ _ _ _ _ _ _ _ _ _ _ _ _ _ _ _ _ _ _ _ _ _ _ _ _ _ _ _ _ _ _ _ _ _ _ _ _ _ u369 u370 u371 u372 u373 u374 u375 u376 u377 u378 u379 u380 u381 u382 u383 u384 u385 u386 u387 u388 u389 u390 u391 u392 u393 u394 u395 u396 u397 u398 u399 u400 u401 _ kj164 HJ164 Ao174 co174 _ wr u2 u21 u22 u322 u323 u324 u325 u326 u327 u328 u329 u330 u331 u332 u333 u334 u335 u336 u337 u338 u339 u340 u341 u342 u343 u344 u345 u346 u347 u348 u349 u350 u351 u352 u353 u354 u355 u356 u357 u358 u359 u360 u361 u362 u363 u364 u365 u366 u367 u368 _ _ x321_6 k6 _ HK6 c175b0 t287 A192 t288 A193 c194b0 c194b1 c195b0 c195b1 c198b0 c198b1 y291 Ny291 c199b0 c199b1 y296 Ny296 t299 A200 HT _ _ _ _ _ _ _ _ H HB ad289 A289_0 c289_0 hx289_0 ua289_0 uc289_0 qi289 HR289_0 HC289_0 p289 q289 e290 ua290_0 uc290_0 qi290 p290 q290 HR290_0 HC290_0 hx290_0 cq5_ ad294 hx294_0 hx294_1 HO218 HO222 _ _ _ _ _ _ _ HO_7 _ HO_5 HO214 _ _ _ _ HO275 _ _ _ _ _ _ HO_4 HO_19 hMe289 HL289_0 hMe290 HL290_0 qi294 p294 q294 e295 hx295_0 hx295_1 qi295 p295 q295
 refine start_ (n := 34) (S := fun w' => w'.cell? ad289 = some (.slice A289_0 (rd_L3 t212 0).length c289_0) ∧ w'.cell? ad289 = some (.slice A289_0 (rd_L3 t212 0).length c289_0) ∧ w'.cell? ad294 = some (.int .i64 ((rd_T44 t215 0).f0)) ∧ w'.cell? ⟨ad294.block, ad294.off + 1, none⟩ = some (.int .i64 ((rd_T44 t215 0).f1)) ∧ w'.cell? ad294 = some (.int .i64 ((rd_T44 t215 0).f0)) ∧ w'.cell? ⟨ad294.block, ad294.off + 1, none⟩ = some (.int .i64 ((rd_T44 t215 0).f1))) (ds := []) (qB_ 34 0) (by kernel_rfl) rfl rfl ⟨hx289_0, hx290_0, hx294_0, hx294_1, hx295_0, hx295_1⟩ (fun hHeld => ?_); refine with_tabW laws_FnShelves.tab39 laws_FnShelves.bits39 (fun HT_ HW_ => ?_)
 generalize wr.drew = w201 at HO_4 HO_5 HO_19 HB HL289_0 HL290_0 HR289_0 HR290_0 hx289_0 hx290_0 hx294_0 hx294_1 hx295_0 hx295_1 hHeld ⊢
 refine pz_ 0 369 (v := ?_) (a' := ?_) (qB_ 34 1) HT_ ?zy ?zp ?_; (case zy => intro w'; go_simp; with_reducible rfl); (case zp => simp only [Act.put, List.setIfInBounds_toArray, List.set_cons_zero, List.set_cons_succ, i64_w, i32_w]; rfl)
 refine pz_ 1 370 (v := ?_) (a' := ?_) (qB_ 34 3) HT_ ?zy ?zp ?_; (case zy => intro w'; go_simp; with_reducible rfl); (case zp => simp only [Act.put, List.setIfInBounds_toArray, List.set_cons_zero, List.set_cons_succ, i64_w, i32_w]; rfl)
 refine pz_ 2 371 (v := ?_) (a' := ?_) (qB_ 34 7) HT_ ?zy ?zp ?_; (case zy => intro w'; go_simp; with_reducible rfl); (case zp => simp only [Act.put, List.setIfInBounds_toArray, List.set_cons_zero, List.set_cons_succ, i64_w, i32_w]; rfl)
 refine pz_ 4 373 (v := ?_) (a' := ?_) (qB_ 34 23) HT_ ?zy ?zp ?_; (case zy => intro w'; go_simp; with_reducible rfl); (case zp => simp only [Act.put, List.setIfInBounds_toArray, List.set_cons_zero, List.set_cons_succ, i64_w, i32_w]; rfl)
 refine pz_ 5 374 (v := ?_) (a' := ?_) (qB_ 34 55) HT_ ?zy ?zp ?_; (case zy => intro w'; go_simp; with_reducible rfl); (case zp => simp only [Act.put, List.setIfInBounds_toArray, List.set_cons_zero, List.set_cons_succ, i64_w, i32_w]; rfl)
 refine pz_ 6 375 (v := ?_) (a' := ?_) (qB_ 34 119) HT_ ?zy ?zp ?_; (case zy => intro w'; go_simp; with_reducible rfl); (case zp => simp only [Act.put, List.setIfInBounds_toArray, List.set_cons_zero, List.set_cons_succ, i64_w, i32_w]; rfl)
 refine pz_ 7 376 (v := ?_) (a' := ?_) (qB_ 34 247) HT_ ?zy ?zp ?_; (case zy => intro w'; go_simp; with_reducible rfl); (case zp => simp only [Act.put, List.setIfInBounds_toArray, List.set_cons_zero, List.set_cons_succ, i64_w, i32_w]; rfl)
 refine one_ (i := 3) (N := some 372) (qB_ 34 255) rfl rfl (one_of HT_.out (by kernel_rfl)) (by decide) (fun K hK => ?_)
 refine goes_ Try.func26 (by kernel_rfl) rfl #[.int .i64 t211, .int .i64 t220, .slice (some ad289) t212.length co9] (by rfl) rfl rfl (by (try simp only [List.map_toArray, List.map_cons, List.map_nil]); first | done | rfl | (simp only [List.length_drop, List.length_take]; rfl)) ?_
 with_reducible refine (impl_WasteOf.calls k6 t211 t220 _ _ t212 t287 _ ?side1 ?side2 A192.out).mono ?_
 (case side1 => repeat (first | exact (Kd.N_reads' HO_4.out).2.2 | (with_reducible refine Kd.C_alloc ?_ _) | (with_reducible refine Kd.C_drewN ?_ _) | (with_reducible refine Kd.C_drew ?_)))
 (case side2 => exact (Kd.N_reads' HO_4.out).2.1)
 rintro e w202 ⟨rfl, hb⟩
 have HS0_ := (hb.cell (World.block_lt_of_cell? _ _ (hHeld.1))).trans (hHeld.1)
 have HS1_ := (hb.cell (World.block_lt_of_cell? _ _ (hHeld.2.1))).trans (hHeld.2.1)
 have HS2_ := (hb.cell (World.block_lt_of_cell? _ _ (hHeld.2.2.1))).trans (hHeld.2.2.1)
 have HS3_ := (hb.cell (World.block_lt_of_cell? _ _ (hHeld.2.2.2.1))).trans (hHeld.2.2.2.1)
 have HS4_ := (hb.cell (World.block_lt_of_cell? _ _ (hHeld.2.2.2.2.1))).trans (hHeld.2.2.2.2.1)
 have HS5_ := (hb.cell (World.block_lt_of_cell? _ _ (hHeld.2.2.2.2.2))).trans (hHeld.2.2.2.2.2)
 refine ⟨_, rfl, ?_⟩
 have n0_ := Aside0.mk (Kd.N_below (by (with_reducible repeat (first | apply Kd.N_alloc | apply Kd.N_drewN | apply Kd.N_drew)); exact HO_4.out) hb)
 have n1_ := Aside0.mk (Kd.R_below (by (with_reducible repeat (first | apply Kd.R_alloc | apply Kd.R_drewN | apply Kd.R_drew)); exact HO_5.out) hb)
 have n2_ := Aside0.mk (Kd.N_below (by (with_reducible repeat (first | apply Kd.N_alloc | apply Kd.N_drewN | apply Kd.N_drew)); exact HO_19.out) hb)
 have n3_ := Aside0.mk (below_step (by repeat (first | (with_reducible first | exact HB.out | apply below_alloc | apply pw_below_drewN | apply below_drew1) | exact HB.out)) hb)
 clear HO_4
 clear HO_5
 clear HO_19
 clear HB
 have HO_4 := n0_
 have HO_5 := n1_
 have HO_19 := n2_
 have HB := n3_
 clear n0_ n1_ n2_ n3_
 replace HL289_0 := Aside0.mk (Kd.V_below HL289_0.out hb)
 replace HL290_0 := Aside0.mk (Kd.V_below HL290_0.out hb)
 replace HR289_0 := Aside0.mk (Kd.C_below HR289_0.out hb)
 replace HR290_0 := Aside0.mk (Kd.C_below HR290_0.out hb)
 (try clear hb)
 (try clear hb2)
 (try clear hk)
 (try clear hi)
 refine hK.out _ _ ⟨HS0_, HS1_, HS2_, HS3_, HS4_, HS5_⟩ (fun hHeld => ?_)
 clear hK K
 refine norm_ (a' := ?_) ?_ ?_
 rotate_left
 ·show Act.put _ (some 372) _ = _
  simp only [Act.put, List.setIfInBounds_toArray, List.set_cons_zero, List.set_cons_succ, i64_w, i32_w]
  rfl
 refine one_ (i := 8) (N := some 377) (qB_ 34 511) rfl rfl (one_of HT_.out (by kernel_rfl)) (by decide) (fun K hK => ?_)
 refine goes_ Try.func22 (by kernel_rfl) rfl #[.slice (some ad289) t212.length co9] (by rfl) rfl rfl (by (try simp only [List.map_toArray, List.map_cons, List.map_nil]); first | done | rfl | (simp only [List.length_drop, List.length_take]; rfl)) ?_
 with_reducible refine (laws_area.calls k6 _ _ t212 t288 _ ?side1 ?side2 A193.out).mono ?_
 (case side1 => repeat (first | exact (Kd.N_reads' HO_4.out).2.2 | (with_reducible refine Kd.C_alloc ?_ _) | (with_reducible refine Kd.C_drewN ?_ _) | (with_reducible refine Kd.C_drew ?_)))
 (case side2 => exact (Kd.N_reads' HO_4.out).2.1)
 rintro e w' ⟨rfl, ⟨nd, rfl⟩⟩
 refine ⟨_, rfl, ?_⟩
 obtain ⟨Ao203, co203, eo203⟩ := Kd.R_slice HO_5.out
 (first | subst eo203 | (injection eo203 with f1_ f2_ f3_; have f4_ := f1_.symm; have f5_ := f3_.symm; clear f1_ f2_ f3_; subst f4_; subst f5_))
 refine hK.out _ _ ⟨hHeld.1, hHeld.2.1, hHeld.2.2.1, hHeld.2.2.2.1, hHeld.2.2.2.2.1, hHeld.2.2.2.2.2⟩ (fun hHeld => ?_)
 clear hK K
 refine norm_ (a' := ?_) ?_ ?_
 rotate_left
 ·show Act.put _ (some 377) _ = _
  simp only [Act.put, List.setIfInBounds_toArray, List.set_cons_zero, List.set_cons_succ, i64_w, i32_w]
  rfl
 refine pz_ 9 378 (v := ?_) (a' := ?_) (qB_ 34 1023) HT_ ?zy ?zp ?_; (case zy => intro w'; go_simp; with_reducible rfl); (case zp => simp only [Act.put, List.setIfInBounds_toArray, List.set_cons_zero, List.set_cons_succ, i64_w, i32_w]; rfl)
 refine pz_ 10 379 (v := ?_) (a' := ?_) (qB_ 34 2047) HT_ ?zy ?zp ?_; (case zy => intro w'; go_simp; with_reducible rfl); (case zp => simp only [Act.put, List.setIfInBounds_toArray, List.set_cons_zero, List.set_cons_succ, i64_w, i32_w]; rfl)
 refine pz_ 11 380 (v := ?_) (a' := ?_) (qB_ 34 4095) HT_ ?zy ?zp ?_; (case zy => intro w'; go_simp; with_reducible rfl); (case zp => simp only [Act.put, List.setIfInBounds_toArray, List.set_cons_zero, List.set_cons_succ, i64_w, i32_w]; rfl)
 refine pz_ 12 381 (v := ?_) (a' := ?_) (qB_ 34 8191) HT_ ?zy ?zp ?_; (case zy => intro w'; go_simp; with_reducible rfl); (case zp => simp only [Act.put, List.setIfInBounds_toArray, List.set_cons_zero, List.set_cons_succ, i64_w, i32_w]; rfl)
 refine pz_ 13 382 (v := ?_) (a' := ?_) (qB_ 34 16383) HT_ ?zy ?zp ?_; (case zy => intro w'; go_simp; with_reducible rfl); (case zp => simp only [Act.put, List.setIfInBounds_toArray, List.set_cons_zero, List.set_cons_succ, i64_w, i32_w]; rfl)
 refine pz_ 14 383 (v := ?_) (a' := ?_) (qB_ 34 32767) HT_ ?zy ?zp ?_; (case zy => intro w'; go_simp; with_reducible rfl); (case zp => simp only [Act.put, List.setIfInBounds_toArray, List.set_cons_zero, List.set_cons_succ, i64_w, i32_w]; rfl)
 refine pz_ 15 384 (v := ?_) (a' := ?_) (qB_ 34 65535) HT_ ?zy ?zp ?_; (case zy => intro w'; go_simp; with_reducible rfl); (case zp => simp only [Act.put, List.setIfInBounds_toArray, List.set_cons_zero, List.set_cons_succ, i64_w, i32_w]; rfl)
 refine pz_ 16 385 (v := ?_) (a' := ?_) (qB_ 34 131071) HT_ ?zy ?zp ?_; (case zy => intro w'; go_simp; with_reducible rfl); (case zp => simp only [Act.put, List.setIfInBounds_toArray, List.set_cons_zero, List.set_cons_succ, i64_w, i32_w]; rfl)
 refine pz_ 17 386 (v := ?_) (a' := ?_) (qB_ 34 262143) HT_ ?zy ?zp ?_; (case zy => intro w'; go_simp; with_reducible rfl); (case zp => simp only [Act.put, List.setIfInBounds_toArray, List.set_cons_zero, List.set_cons_succ, i64_w, i32_w]; rfl)
 refine pz_ 19 388 (v := ?_) (a' := ?_) (qB_ 34 786431) HT_ ?zy ?zp ?_; (case zy => intro w'; go_simp; with_reducible rfl); (case zp => simp only [Act.put, List.setIfInBounds_toArray, List.set_cons_zero, List.set_cons_succ, i64_w, i32_w]; rfl)
 refine pz_ 20 389 (v := ?_) (a' := ?_) (qB_ 34 1835007) HT_ ?zy ?zp ?_; (case zy => intro w'; go_simp; with_reducible rfl); (case zp => simp only [Act.put, List.setIfInBounds_toArray, List.set_cons_zero, List.set_cons_succ, i64_w, i32_w]; rfl)
 refine pz_ 23 392 (v := ?_) (a' := ?_) (qB_ 34 10223615) HT_ ?zy ?zp ?_; (case zy => intro w'; go_simp; with_reducible rfl); (case zp => simp only [Act.put, List.setIfInBounds_toArray, List.set_cons_zero, List.set_cons_succ, i64_w, i32_w]; rfl)
 refine pz_ 24 393 (v := ?_) (a' := ?_) (qB_ 34 27000831) HT_ ?zy ?zp ?_; (case zy => intro w'; go_simp; with_reducible rfl); (case zp => simp only [Act.put, List.setIfInBounds_toArray, List.set_cons_zero, List.set_cons_succ, i64_w, i32_w]; rfl)
 refine pz_ 26 395 (v := ?_) (a' := ?_) (qB_ 34 94109695) HT_ ?zy ?zp ?_; (case zy => intro w'; go_simp; with_reducible rfl); (case zp => simp only [Act.put, List.setIfInBounds_toArray, List.set_cons_zero, List.set_cons_succ, i64_w, i32_w]; rfl)
 refine pz_ 27 396 (v := ?_) (a' := ?_) (qB_ 34 228327423) HT_ ?zy ?zp ?_; (case zy => intro w'; go_simp; with_reducible rfl); (case zp => simp only [Act.put, List.setIfInBounds_toArray, List.set_cons_zero, List.set_cons_succ, i64_w, i32_w]; rfl)
 refine tz_ 18 387 (v := ?_) (a' := ?_) (qB_ 34 228589567) HT_ HW_ hHeld rfl ?zy ?zp ?_; (case zy => rintro w' ⟨s0, s1, s2, s3, s4, s5⟩; go_simp; with_reducible rfl); (case zp => simp only [Act.put, List.setIfInBounds_toArray, List.set_cons_zero, List.set_cons_succ, i64_w, i32_w]; rfl)
 refine tz_ 21 390 (v := ?_) (a' := ?_) (qB_ 34 230686719) HT_ HW_ hHeld rfl ?zy ?zp ?_; (case zy => rintro w' ⟨s0, s1, s2, s3, s4, s5⟩; go_simp; with_reducible rfl); (case zp => simp only [Act.put, List.setIfInBounds_toArray, List.set_cons_zero, List.set_cons_succ, i64_w, i32_w]; rfl)
 refine tz_ 25 394 (v := ?_) (a' := ?_) (qB_ 34 264241151) HT_ HW_ hHeld rfl ?zy ?zp ?_; (case zy => rintro w' ⟨s0, s1, s2, s3, s4, s5⟩; go_simp; with_reducible rfl); (case zp => simp only [Act.put, List.setIfInBounds_toArray, List.set_cons_zero, List.set_cons_succ, i64_w, i32_w]; rfl)
 refine tz_ 28 397 (v := ?_) (a' := ?_) (qB_ 34 532676607) HT_ HW_ hHeld rfl ?zy ?zp ?_; (case zy => rintro w' ⟨s0, s1, s2, s3, s4, s5⟩; go_simp; with_reducible rfl); (case zp => simp only [Act.put, List.setIfInBounds_toArray, List.set_cons_zero, List.set_cons_succ, i64_w, i32_w]; rfl)
 refine join_ (σ := Value × Value) 4 (qB_ 34 1073741823) (fun s_ => [(391, s_.1), (398, s_.2)]) (fun s_ w' => (w'.cell? ad289 = some (.slice A289_0 (rd_L3 t212 0).length c289_0) ∧ w'.cell? ad289 = some (.slice A289_0 (rd_L3 t212 0).length c289_0) ∧ w'.cell? ad294 = some (.int .i64 ((rd_T44 t215 0).f0)) ∧ w'.cell? ⟨ad294.block, ad294.off + 1, none⟩ = some (.int .i64 ((rd_T44 t215 0).f1)) ∧ w'.cell? ad294 = some (.int .i64 ((rd_T44 t215 0).f0)) ∧ w'.cell? ⟨ad294.block, ad294.off + 1, none⟩ = some (.int .i64 ((rd_T44 t215 0).f1))) ∧ (Kd.V (Kd.int .i64) 3 w' w.heap.size (fun k_ => some k_ ≠ (s_.1 : Value).ownBlock ∧ some k_ ≠ (s_.2 : Value).ownBlock ∧ some k_ ≠ (.slice Ao174 t272.length co174 : Value).ownBlock ∧ some k_ ≠ (.slice (some ad289) t212.length co9 : Value).ownBlock ∧ some k_ ≠ (.slice (some ad294) t215.length co203 : Value).ownBlock) (.slice A289_0 (rd_L3 t212 0).length c289_0) (rd_L3 t212 0)) ∧ (Kd.V (Kd.int .i64) 3 w' w.heap.size (fun k_ => some k_ ≠ (s_.1 : Value).ownBlock ∧ some k_ ≠ (s_.2 : Value).ownBlock ∧ some k_ ≠ (.slice Ao174 t272.length co174 : Value).ownBlock ∧ some k_ ≠ (.slice (some ad289) t212.length co9 : Value).ownBlock ∧ some k_ ≠ (.slice (some ad294) t215.length co203 : Value).ownBlock) (.slice A289_0 (rd_L3 t212 0).length c289_0) (rd_L3 t212 0)) ∧ (Kd.N (Kd.slice 3 (Kd.int .i64)) 27 w' w.heap.size (fun k_ => some k_ ≠ (s_.2 : Value).ownBlock ∧ some k_ ≠ (.slice Ao174 t272.length co174 : Value).ownBlock ∧ some k_ ≠ (.slice (some ad289) t212.length co9 : Value).ownBlock ∧ some k_ ≠ (.slice (some ad294) t215.length co203 : Value).ownBlock) s_.1 y291) ∧ (Kd.R k44 44 w' w.heap.size (fun k_ => some k_ ≠ (.slice (some ad294) t215.length co203 : Value).ownBlock) s_.2 y296) ∧ (Kd.N (Kd.slice 3 (Kd.int .i64)) 27 w' w.heap.size (fun k_ => some k_ ≠ (s_.1 : Value).ownBlock ∧ some k_ ≠ (s_.2 : Value).ownBlock ∧ some k_ ≠ (.slice (some ad289) t212.length co9 : Value).ownBlock ∧ some k_ ≠ (.slice (some ad294) t215.length co203 : Value).ownBlock) (.slice Ao174 t272.length co174) t272) ∧ (Kd.N (Kd.slice 3 (Kd.int .i64)) 27 w' w.heap.size (fun k_ => some k_ ≠ (s_.1 : Value).ownBlock ∧ some k_ ≠ (s_.2 : Value).ownBlock ∧ some k_ ≠ (.slice Ao174 t272.length co174 : Value).ownBlock ∧ some k_ ≠ (.slice (some ad294) t215.length co203 : Value).ownBlock) (.slice (some ad289) t212.length co9) t212) ∧ (Kd.R k44 44 w' w.heap.size (fun k_ => some k_ ≠ (s_.2 : Value).ownBlock) (.slice (some ad294) t215.length co203) t215) ∧ (Below w.heap.size w w')) ?_ ?_
 rotate_left
 ·intro hCont
  refine two_ (i := 22) (j := 29) (Ni := some 391) (Nj := some 398) (qB_ 34 536870911) (qB_ 34 1069547519) rfl rfl rfl rfl (two_of HT_.out (by kernel_rfl)) (by decide) (by decide) (fun K hK => ?_) (fun K hK => ?_)
  ·skip
   refine Kd.N_lit_step (Kd.slice 3 (Kd.int .i64)) _ 27 ?hg (N' := 391) ?hd (xs := ([rd_L3 t212 0, rd_L3 t212 0] : List (List Int))) (inner := [.slice A289_0 (rd_L3 t212 0).length c289_0, .slice A289_0 (rd_L3 t212 0).length c289_0]) (ok := (fun k_ => some k_ ≠ (.slice (some ad289) t212.length co9 : Value).ownBlock ∧ some k_ ≠ (.slice (some ad294) t215.length co203 : Value).ownBlock ∧ some k_ ≠ (.slice Ao174 t272.length co174 : Value).ownBlock)) (okp := (fun k_ => some k_ ≠ (.slice (some ad289) t212.length co9 : Value).ownBlock ∧ some k_ ≠ (.slice (some ad294) t215.length co203 : Value).ownBlock ∧ some k_ ≠ (.slice Ao174 t272.length co174 : Value).ownBlock)) ?hr ?hp (fun _ hk => hk) ((show ∀ k_, w202.heap.size ≤ k_ → (fun k_ => some k_ ≠ (.slice (some ad289) t212.length co9 : Value).ownBlock ∧ some k_ ≠ (.slice (some ad294) t215.length co203 : Value).ownBlock ∧ some k_ ≠ (.slice Ao174 t272.length co174 : Value).ownBlock) k_ from fun k_ hk => ⟨Kd.fresh' (Kd.N_lt (by (with_reducible repeat (first | apply Kd.N_alloc | apply Kd.N_drewN | apply Kd.N_drew)); exact HO_4.out)) k_ hk, Kd.fresh' (Kd.R_lt (by (with_reducible repeat (first | apply Kd.R_alloc | apply Kd.R_drewN | apply Kd.R_drew)); exact HO_5.out)) k_ hk, Kd.fresh' (Kd.N_lt (by (with_reducible repeat (first | apply Kd.N_alloc | apply Kd.N_drewN | apply Kd.N_drew)); exact HO_19.out)) k_ hk⟩) _ (Nat.le_refl _)) (Below.refl _ _) (Nat.le_refl _) (by simp) ?_; (case hd => rfl); (case hg => rfl); (case hr => first | (go_simp; done) | (go_simp; rfl)); (case hp => exact (Reps.one (show Kd.FK (Kd.slice 3 (Kd.int .i64)) _ _ (rd_L3 t212 0) [.slice A289_0 (rd_L3 t212 0).length c289_0] from (Kd.FK_slice_mk (Kd.V_reads' (Kd.V_mono (ok' := (fun k_ => some k_ ≠ (.slice (some ad289) t212.length co9 : Value).ownBlock ∧ some k_ ≠ (.slice (some ad294) t215.length co203 : Value).ownBlock ∧ some k_ ≠ (.slice Ao174 t272.length co174 : Value).ownBlock)) (Kd.V_drewN HL289_0.out nd) (fun k_ hk => ⟨hk.2, ⟨hk.1.1, hk.1.2⟩⟩))).2.1 (Kd.V_F (Kd.V_mono (ok' := (fun k_ => some k_ ≠ (.slice (some ad289) t212.length co9 : Value).ownBlock ∧ some k_ ≠ (.slice (some ad294) t215.length co203 : Value).ownBlock ∧ some k_ ≠ (.slice Ao174 t272.length co174 : Value).ownBlock)) (Kd.V_drewN HL289_0.out nd) (fun k_ hk => ⟨hk.2, ⟨hk.1.1, hk.1.2⟩⟩))))) (Reps.one (show Kd.FK (Kd.slice 3 (Kd.int .i64)) _ _ (rd_L3 t212 0) [.slice A289_0 (rd_L3 t212 0).length c289_0] from (Kd.FK_slice_mk (Kd.V_reads' (Kd.V_mono (ok' := (fun k_ => some k_ ≠ (.slice (some ad289) t212.length co9 : Value).ownBlock ∧ some k_ ≠ (.slice (some ad294) t215.length co203 : Value).ownBlock ∧ some k_ ≠ (.slice Ao174 t272.length co174 : Value).ownBlock)) (Kd.V_drewN HL290_0.out nd) (fun k_ hk => ⟨hk.2, ⟨hk.1.1, hk.1.2⟩⟩))).2.1 (Kd.V_F (Kd.V_mono (ok' := (fun k_ => some k_ ≠ (.slice (some ad289) t212.length co9 : Value).ownBlock ∧ some k_ ≠ (.slice (some ad294) t215.length co203 : Value).ownBlock ∧ some k_ ≠ (.slice Ao174 t272.length co174 : Value).ownBlock)) (Kd.V_drewN HL290_0.out nd) (fun k_ hk => ⟨hk.2, ⟨hk.1.1, hk.1.2⟩⟩))))) (Reps.none _ _))))
   intro v292 w204 ho205 hb hg_ hnew_
   have HS0_ := (hb.cell (World.block_lt_of_cell? _ _ (hHeld.1))).trans (hHeld.1)
   have HS1_ := (hb.cell (World.block_lt_of_cell? _ _ (hHeld.2.1))).trans (hHeld.2.1)
   have HS2_ := (hb.cell (World.block_lt_of_cell? _ _ (hHeld.2.2.1))).trans (hHeld.2.2.1)
   have HS3_ := (hb.cell (World.block_lt_of_cell? _ _ (hHeld.2.2.2.1))).trans (hHeld.2.2.2.1)
   have HS4_ := (hb.cell (World.block_lt_of_cell? _ _ (hHeld.2.2.2.2.1))).trans (hHeld.2.2.2.2.1)
   have HS5_ := (hb.cell (World.block_lt_of_cell? _ _ (hHeld.2.2.2.2.2))).trans (hHeld.2.2.2.2.2)
   clear hg_ hnew_
   (first | rw [← Ny291.out] at ho205 | (simp only [Int.reduceToNat] at ho205; rw [← Ny291.out] at ho205))
   have n0_ := Aside0.mk (Kd.N_elder' (by (with_reducible repeat (first | apply Kd.N_alloc | apply Kd.N_drewN | apply Kd.N_drew)); exact HO_4.out) (Kd.N_base ho205) hb)
   have n1_ := Aside0.mk (Kd.R_below (by (with_reducible repeat (first | apply Kd.R_alloc | apply Kd.R_drewN | apply Kd.R_drew)); exact HO_5.out) hb)
   have n2_ := Aside0.mk (Kd.N_elder' (by (with_reducible repeat (first | apply Kd.N_alloc | apply Kd.N_drewN | apply Kd.N_drew)); exact HO_19.out) (Kd.N_base ho205) hb)
   have n3_ := Aside0.mk (Kd.V_elder' (by (with_reducible repeat (first | apply Kd.V_alloc | apply Kd.V_drewN | apply Kd.V_drew)); exact HL289_0.out) (Kd.N_base ho205) hb)
   have n4_ := Aside0.mk (Kd.V_elder' (by (with_reducible repeat (first | apply Kd.V_alloc | apply Kd.V_drewN | apply Kd.V_drew)); exact HL290_0.out) (Kd.N_base ho205) hb)
   have n5_ := Aside0.mk (Kd.N_lower ho205 (below_size (by repeat (first | (with_reducible first | exact HB.out | apply below_alloc | apply pw_below_drewN | apply below_drew1) | exact HB.out))))
   have n6_ := Aside0.mk (Kd.C_below (by repeat (first | (with_reducible exact HR289_0.out) | (with_reducible refine Kd.C_alloc ?_ _) | (with_reducible refine Kd.C_drewN ?_ _) | (with_reducible refine Kd.C_drew ?_) | exact HR289_0.out)) hb)
   have n7_ := Aside0.mk (Kd.C_below (by repeat (first | (with_reducible exact HR290_0.out) | (with_reducible refine Kd.C_alloc ?_ _) | (with_reducible refine Kd.C_drewN ?_ _) | (with_reducible refine Kd.C_drew ?_) | exact HR290_0.out)) hb)
   have n8_ := Aside0.mk (below_step (by repeat (first | (with_reducible first | exact HB.out | apply below_alloc | apply pw_below_drewN | apply below_drew1) | exact HB.out)) hb)
   clear HO_4
   clear HO_5
   clear HO_19
   clear HL289_0
   clear HL290_0
   clear HR289_0
   clear HR290_0
   clear HB
   have HO_4 := n0_
   have HO_5 := n1_
   have HO_19 := n2_
   have HL289_0 := n3_
   have HL290_0 := n4_
   have HO293 := n5_
   have HR289_0 := n6_
   have HR290_0 := n7_
   have HB := n8_
   clear n0_ n1_ n2_ n3_ n4_ n5_ n6_ n7_ n8_
   clear hb ho205
   refine hK.out _ _ ⟨HS0_, HS1_, HS2_, HS3_, HS4_, HS5_⟩ (fun hHeld => ?_)
   clear hK K
   refine norm_ (a' := ?_) ?_ ?_
   rotate_left
   ·show Act.put _ (some 391) _ = _
    simp only [Act.put, List.setIfInBounds_toArray, List.set_cons_zero, List.set_cons_succ, i64_w, i32_w]
    rfl
   refine one_ (i := 29) (N := some 398) (qB_ 34 1073741823) rfl rfl (one_of HT_.out (by kernel_rfl)) (by decide) (fun K hK => ?_)
   refine Kd.R_lit_step k44 _ 44 ?hg (N := 398) ?hd (xs := ([(⟨(rd_T44 t215 0).f0, (rd_T44 t215 0).f1⟩ : S44), (⟨(rd_T44 t215 0).f0, (rd_T44 t215 0).f1⟩ : S44)] : List (S44))) (inner := [.int .i64 ((rd_T44 t215 0).f0), .int .i64 ((rd_T44 t215 0).f1), .int .i64 ((rd_T44 t215 0).f0), .int .i64 ((rd_T44 t215 0).f1)]) (ok := fun _ => True) (okp := fun _ => True) ?hr ?hp (fun _ hk => hk) trivial (Below.refl _ _) (Nat.le_refl _) (by simp) ?_; (case hd => rfl); (case hg => rfl); (case hr => first | (go_simp; done) | (go_simp; rfl)); (case hp => exact (Reps.c2 (show Kd.M k44 _ _ _ (⟨(rd_T44 t215 0).f0, (rd_T44 t215 0).f1⟩ : S44) [.int .i64 ((rd_T44 t215 0).f0), .int .i64 ((rd_T44 t215 0).f1)] from (k44_mkM _ _ _ (⟨(rd_T44 t215 0).f0, (rd_T44 t215 0).f1⟩ : S44) )) (Reps.c2 (show Kd.M k44 _ _ _ (⟨(rd_T44 t215 0).f0, (rd_T44 t215 0).f1⟩ : S44) [.int .i64 ((rd_T44 t215 0).f0), .int .i64 ((rd_T44 t215 0).f1)] from (k44_mkM _ _ _ (⟨(rd_T44 t215 0).f0, (rd_T44 t215 0).f1⟩ : S44) )) (Reps.none _ _))))
   intro v297 w206 ho207 hb hg_ hnew_
   have HS0_ := (hb.cell (World.block_lt_of_cell? _ _ (hHeld.1))).trans (hHeld.1)
   have HS1_ := (hb.cell (World.block_lt_of_cell? _ _ (hHeld.2.1))).trans (hHeld.2.1)
   have HS2_ := (hb.cell (World.block_lt_of_cell? _ _ (hHeld.2.2.1))).trans (hHeld.2.2.1)
   have HS3_ := (hb.cell (World.block_lt_of_cell? _ _ (hHeld.2.2.2.1))).trans (hHeld.2.2.2.1)
   have HS4_ := (hb.cell (World.block_lt_of_cell? _ _ (hHeld.2.2.2.2.1))).trans (hHeld.2.2.2.2.1)
   have HS5_ := (hb.cell (World.block_lt_of_cell? _ _ (hHeld.2.2.2.2.2))).trans (hHeld.2.2.2.2.2)
   clear hg_ hnew_
   (first | rw [← Ny296.out] at ho207 | (simp only [Int.reduceToNat] at ho207; rw [← Ny296.out] at ho207))
   have n0_ := Aside0.mk (Kd.N_elder' (by (with_reducible repeat (first | apply Kd.N_alloc | apply Kd.N_drewN | apply Kd.N_drew)); exact HO_4.out) (Kd.R_base ho207) hb)
   have n1_ := Aside0.mk (Kd.R_elder' (by (with_reducible repeat (first | apply Kd.R_alloc | apply Kd.R_drewN | apply Kd.R_drew)); exact HO_5.out) (Kd.R_base ho207) hb)
   have n2_ := Aside0.mk (Kd.N_elder' (by (with_reducible repeat (first | apply Kd.N_alloc | apply Kd.N_drewN | apply Kd.N_drew)); exact HO_19.out) (Kd.R_base ho207) hb)
   have n3_ := Aside0.mk (Kd.V_elder' (by (with_reducible repeat (first | apply Kd.V_alloc | apply Kd.V_drewN | apply Kd.V_drew)); exact HL289_0.out) (Kd.R_base ho207) hb)
   have n4_ := Aside0.mk (Kd.V_elder' (by (with_reducible repeat (first | apply Kd.V_alloc | apply Kd.V_drewN | apply Kd.V_drew)); exact HL290_0.out) (Kd.R_base ho207) hb)
   have n5_ := Aside0.mk (Kd.N_elder' (by (with_reducible repeat (first | apply Kd.N_alloc | apply Kd.N_drewN | apply Kd.N_drew)); exact HO293.out) (Kd.R_base ho207) hb)
   have n6_ := Aside0.mk (Kd.R_lower (Kd.R_new' ho207 (Kd.R_lt (by (with_reducible repeat (first | apply Kd.R_alloc | apply Kd.R_drewN | apply Kd.R_drew)); exact HO_5.out))) (below_size (by repeat (first | (with_reducible first | exact HB.out | apply below_alloc | apply pw_below_drewN | apply below_drew1) | exact HB.out))))
   have n7_ := Aside0.mk (Kd.C_below (by repeat (first | (with_reducible exact HR289_0.out) | (with_reducible refine Kd.C_alloc ?_ _) | (with_reducible refine Kd.C_drewN ?_ _) | (with_reducible refine Kd.C_drew ?_) | exact HR289_0.out)) hb)
   have n8_ := Aside0.mk (Kd.C_below (by repeat (first | (with_reducible exact HR290_0.out) | (with_reducible refine Kd.C_alloc ?_ _) | (with_reducible refine Kd.C_drewN ?_ _) | (with_reducible refine Kd.C_drew ?_) | exact HR290_0.out)) hb)
   have n9_ := Aside0.mk (below_step (by repeat (first | (with_reducible first | exact HB.out | apply below_alloc | apply pw_below_drewN | apply below_drew1) | exact HB.out)) hb)
   clear HO_4
   clear HO_5
   clear HO_19
   clear HL289_0
   clear HL290_0
   clear HO293
   clear HR289_0
   clear HR290_0
   clear HB
   have HO_4 := n0_
   have HO_5 := n1_
   have HO_19 := n2_
   have HL289_0 := n3_
   have HL290_0 := n4_
   have HO293 := n5_
   have HO298 := n6_
   have HR289_0 := n7_
   have HR290_0 := n8_
   have HB := n9_
   clear n0_ n1_ n2_ n3_ n4_ n5_ n6_ n7_ n8_ n9_
   clear hb ho207
   refine hK.out _ _ ⟨HS0_, HS1_, HS2_, HS3_, HS4_, HS5_⟩ (fun hHeld => ?_)
   clear hK K
   refine norm_ (a' := ?_) ?_ ?_
   rotate_left
   ·show Act.put _ (some 398) _ = _
    simp only [Act.put, List.setIfInBounds_toArray, List.set_cons_zero, List.set_cons_succ, i64_w, i32_w]
    rfl
   exact norm_ (by simp only [putAll, Act.put, List.setIfInBounds_toArray, List.set_cons_zero, List.set_cons_succ]) (hCont (v292, v297) _ ⟨hHeld, (by (with_reducible repeat (first | apply Kd.V_alloc | apply Kd.V_drewN | apply Kd.V_drew)); exact Kd.V_mono HL289_0.out (fun _ hk => ⟨hk.1.2, ⟨hk.2, ⟨hk.1.1.1.2, ⟨hk.1.1.2, hk.1.1.1.1⟩⟩⟩⟩)), (by (with_reducible repeat (first | apply Kd.V_alloc | apply Kd.V_drewN | apply Kd.V_drew)); exact Kd.V_mono HL290_0.out (fun _ hk => ⟨hk.1.2, ⟨hk.2, ⟨hk.1.1.1.2, ⟨hk.1.1.2, hk.1.1.1.1⟩⟩⟩⟩)), (by (with_reducible repeat (first | apply Kd.N_alloc | apply Kd.N_drewN | apply Kd.N_drew)); exact Kd.N_mono HO293.out (fun _ hk => ⟨hk.2, ⟨hk.1.2.2, ⟨hk.1.1, hk.1.2.1⟩⟩⟩)), (by (with_reducible repeat (first | apply Kd.R_alloc | apply Kd.R_drewN | apply Kd.R_drew)); exact Kd.R_mono HO298.out (fun _ hk => hk.2)), (by (with_reducible repeat (first | apply Kd.N_alloc | apply Kd.N_drewN | apply Kd.N_drew)); exact Kd.N_mono HO_19.out (fun _ hk => ⟨hk.1.2, ⟨hk.2, ⟨hk.1.1.1, hk.1.1.2⟩⟩⟩)), (by (with_reducible repeat (first | apply Kd.N_alloc | apply Kd.N_drewN | apply Kd.N_drew)); exact Kd.N_mono HO_4.out (fun _ hk => ⟨hk.1.2, ⟨hk.2, ⟨hk.1.1.2, hk.1.1.1⟩⟩⟩)), (by (with_reducible repeat (first | apply Kd.R_alloc | apply Kd.R_drewN | apply Kd.R_drew)); exact Kd.R_mono HO_5.out (fun _ hk => hk.2)), (by repeat (first | (with_reducible first | exact HB.out | apply below_alloc | apply pw_below_drewN | apply below_drew1) | exact HB.out))⟩)
  ·skip
   refine Kd.R_lit_step k44 _ 44 ?hg (N := 398) ?hd (xs := ([(⟨(rd_T44 t215 0).f0, (rd_T44 t215 0).f1⟩ : S44), (⟨(rd_T44 t215 0).f0, (rd_T44 t215 0).f1⟩ : S44)] : List (S44))) (inner := [.int .i64 ((rd_T44 t215 0).f0), .int .i64 ((rd_T44 t215 0).f1), .int .i64 ((rd_T44 t215 0).f0), .int .i64 ((rd_T44 t215 0).f1)]) (ok := fun _ => True) (okp := fun _ => True) ?hr ?hp (fun _ hk => hk) trivial (Below.refl _ _) (Nat.le_refl _) (by simp) ?_; (case hd => rfl); (case hg => rfl); (case hr => first | (go_simp; done) | (go_simp; rfl)); (case hp => exact (Reps.c2 (show Kd.M k44 _ _ _ (⟨(rd_T44 t215 0).f0, (rd_T44 t215 0).f1⟩ : S44) [.int .i64 ((rd_T44 t215 0).f0), .int .i64 ((rd_T44 t215 0).f1)] from (k44_mkM _ _ _ (⟨(rd_T44 t215 0).f0, (rd_T44 t215 0).f1⟩ : S44) )) (Reps.c2 (show Kd.M k44 _ _ _ (⟨(rd_T44 t215 0).f0, (rd_T44 t215 0).f1⟩ : S44) [.int .i64 ((rd_T44 t215 0).f0), .int .i64 ((rd_T44 t215 0).f1)] from (k44_mkM _ _ _ (⟨(rd_T44 t215 0).f0, (rd_T44 t215 0).f1⟩ : S44) )) (Reps.none _ _))))
   intro v297 w204 ho205 hb hg_ hnew_
   have HS0_ := (hb.cell (World.block_lt_of_cell? _ _ (hHeld.1))).trans (hHeld.1)
   have HS1_ := (hb.cell (World.block_lt_of_cell? _ _ (hHeld.2.1))).trans (hHeld.2.1)
   have HS2_ := (hb.cell (World.block_lt_of_cell? _ _ (hHeld.2.2.1))).trans (hHeld.2.2.1)
   have HS3_ := (hb.cell (World.block_lt_of_cell? _ _ (hHeld.2.2.2.1))).trans (hHeld.2.2.2.1)
   have HS4_ := (hb.cell (World.block_lt_of_cell? _ _ (hHeld.2.2.2.2.1))).trans (hHeld.2.2.2.2.1)
   have HS5_ := (hb.cell (World.block_lt_of_cell? _ _ (hHeld.2.2.2.2.2))).trans (hHeld.2.2.2.2.2)
   clear hg_ hnew_
   (first | rw [← Ny296.out] at ho205 | (simp only [Int.reduceToNat] at ho205; rw [← Ny296.out] at ho205))
   have n0_ := Aside0.mk (Kd.N_elder' (by (with_reducible repeat (first | apply Kd.N_alloc | apply Kd.N_drewN | apply Kd.N_drew)); exact HO_4.out) (Kd.R_base ho205) hb)
   have n1_ := Aside0.mk (Kd.R_elder' (by (with_reducible repeat (first | apply Kd.R_alloc | apply Kd.R_drewN | apply Kd.R_drew)); exact HO_5.out) (Kd.R_base ho205) hb)
   have n2_ := Aside0.mk (Kd.N_elder' (by (with_reducible repeat (first | apply Kd.N_alloc | apply Kd.N_drewN | apply Kd.N_drew)); exact HO_19.out) (Kd.R_base ho205) hb)
   have n3_ := Aside0.mk (Kd.V_elder' (by (with_reducible repeat (first | apply Kd.V_alloc | apply Kd.V_drewN | apply Kd.V_drew)); exact HL289_0.out) (Kd.R_base ho205) hb)
   have n4_ := Aside0.mk (Kd.V_elder' (by (with_reducible repeat (first | apply Kd.V_alloc | apply Kd.V_drewN | apply Kd.V_drew)); exact HL290_0.out) (Kd.R_base ho205) hb)
   have n5_ := Aside0.mk (Kd.R_lower (Kd.R_new' ho205 (Kd.R_lt (by (with_reducible repeat (first | apply Kd.R_alloc | apply Kd.R_drewN | apply Kd.R_drew)); exact HO_5.out))) (below_size (by repeat (first | (with_reducible first | exact HB.out | apply below_alloc | apply pw_below_drewN | apply below_drew1) | exact HB.out))))
   have n6_ := Aside0.mk (Kd.C_below (by repeat (first | (with_reducible exact HR289_0.out) | (with_reducible refine Kd.C_alloc ?_ _) | (with_reducible refine Kd.C_drewN ?_ _) | (with_reducible refine Kd.C_drew ?_) | exact HR289_0.out)) hb)
   have n7_ := Aside0.mk (Kd.C_below (by repeat (first | (with_reducible exact HR290_0.out) | (with_reducible refine Kd.C_alloc ?_ _) | (with_reducible refine Kd.C_drewN ?_ _) | (with_reducible refine Kd.C_drew ?_) | exact HR290_0.out)) hb)
   have n8_ := Aside0.mk (below_step (by repeat (first | (with_reducible first | exact HB.out | apply below_alloc | apply pw_below_drewN | apply below_drew1) | exact HB.out)) hb)
   clear HO_4
   clear HO_5
   clear HO_19
   clear HL289_0
   clear HL290_0
   clear HR289_0
   clear HR290_0
   clear HB
   have HO_4 := n0_
   have HO_5 := n1_
   have HO_19 := n2_
   have HL289_0 := n3_
   have HL290_0 := n4_
   have HO298 := n5_
   have HR289_0 := n6_
   have HR290_0 := n7_
   have HB := n8_
   clear n0_ n1_ n2_ n3_ n4_ n5_ n6_ n7_ n8_
   clear hb ho205
   refine hK.out _ _ ⟨HS0_, HS1_, HS2_, HS3_, HS4_, HS5_⟩ (fun hHeld => ?_)
   clear hK K
   refine norm_ (a' := ?_) ?_ ?_
   rotate_left
   ·show Act.put _ (some 398) _ = _
    simp only [Act.put, List.setIfInBounds_toArray, List.set_cons_zero, List.set_cons_succ, i64_w, i32_w]
    rfl
   refine one_ (i := 22) (N := some 391) (qB_ 34 1073741823) rfl rfl (one_of HT_.out (by kernel_rfl)) (by decide) (fun K hK => ?_)
   refine Kd.N_lit_step (Kd.slice 3 (Kd.int .i64)) _ 27 ?hg (N' := 391) ?hd (xs := ([rd_L3 t212 0, rd_L3 t212 0] : List (List Int))) (inner := [.slice A289_0 (rd_L3 t212 0).length c289_0, .slice A289_0 (rd_L3 t212 0).length c289_0]) (ok := (fun k_ => some k_ ≠ (.slice (some ad289) t212.length co9 : Value).ownBlock ∧ some k_ ≠ (.slice (some ad294) t215.length co203 : Value).ownBlock ∧ some k_ ≠ (.slice Ao174 t272.length co174 : Value).ownBlock ∧ some k_ ≠ (v297 : Value).ownBlock)) (okp := (fun k_ => some k_ ≠ (.slice (some ad289) t212.length co9 : Value).ownBlock ∧ some k_ ≠ (.slice (some ad294) t215.length co203 : Value).ownBlock ∧ some k_ ≠ (.slice Ao174 t272.length co174 : Value).ownBlock ∧ some k_ ≠ (v297 : Value).ownBlock)) ?hr ?hp (fun _ hk => hk) ((show ∀ k_, w204.heap.size ≤ k_ → (fun k_ => some k_ ≠ (.slice (some ad289) t212.length co9 : Value).ownBlock ∧ some k_ ≠ (.slice (some ad294) t215.length co203 : Value).ownBlock ∧ some k_ ≠ (.slice Ao174 t272.length co174 : Value).ownBlock ∧ some k_ ≠ (v297 : Value).ownBlock) k_ from fun k_ hk => ⟨Kd.fresh' (Kd.N_lt (by (with_reducible repeat (first | apply Kd.N_alloc | apply Kd.N_drewN | apply Kd.N_drew)); exact HO_4.out)) k_ hk, Kd.fresh' (Kd.R_lt (by (with_reducible repeat (first | apply Kd.R_alloc | apply Kd.R_drewN | apply Kd.R_drew)); exact HO_5.out)) k_ hk, Kd.fresh' (Kd.N_lt (by (with_reducible repeat (first | apply Kd.N_alloc | apply Kd.N_drewN | apply Kd.N_drew)); exact HO_19.out)) k_ hk, Kd.fresh' (Kd.R_lt (by (with_reducible repeat (first | apply Kd.R_alloc | apply Kd.R_drewN | apply Kd.R_drew)); exact HO298.out)) k_ hk⟩) _ (Nat.le_refl _)) (Below.refl _ _) (Nat.le_refl _) (by simp) ?_; (case hd => rfl); (case hg => rfl); (case hr => first | (go_simp; done) | (go_simp; rfl)); (case hp => exact (Reps.one (show Kd.FK (Kd.slice 3 (Kd.int .i64)) _ _ (rd_L3 t212 0) [.slice A289_0 (rd_L3 t212 0).length c289_0] from (Kd.FK_slice_mk (Kd.V_reads' (Kd.V_mono (ok' := (fun k_ => some k_ ≠ (.slice (some ad289) t212.length co9 : Value).ownBlock ∧ some k_ ≠ (.slice (some ad294) t215.length co203 : Value).ownBlock ∧ some k_ ≠ (.slice Ao174 t272.length co174 : Value).ownBlock ∧ some k_ ≠ (v297 : Value).ownBlock)) (HL289_0.out) (fun k_ hk => ⟨hk.1.2, ⟨hk.1.1.1, ⟨hk.1.1.2, hk.2⟩⟩⟩))).2.1 (Kd.V_F (Kd.V_mono (ok' := (fun k_ => some k_ ≠ (.slice (some ad289) t212.length co9 : Value).ownBlock ∧ some k_ ≠ (.slice (some ad294) t215.length co203 : Value).ownBlock ∧ some k_ ≠ (.slice Ao174 t272.length co174 : Value).ownBlock ∧ some k_ ≠ (v297 : Value).ownBlock)) (HL289_0.out) (fun k_ hk => ⟨hk.1.2, ⟨hk.1.1.1, ⟨hk.1.1.2, hk.2⟩⟩⟩))))) (Reps.one (show Kd.FK (Kd.slice 3 (Kd.int .i64)) _ _ (rd_L3 t212 0) [.slice A289_0 (rd_L3 t212 0).length c289_0] from (Kd.FK_slice_mk (Kd.V_reads' (Kd.V_mono (ok' := (fun k_ => some k_ ≠ (.slice (some ad289) t212.length co9 : Value).ownBlock ∧ some k_ ≠ (.slice (some ad294) t215.length co203 : Value).ownBlock ∧ some k_ ≠ (.slice Ao174 t272.length co174 : Value).ownBlock ∧ some k_ ≠ (v297 : Value).ownBlock)) (HL290_0.out) (fun k_ hk => ⟨hk.1.2, ⟨hk.1.1.1, ⟨hk.1.1.2, hk.2⟩⟩⟩))).2.1 (Kd.V_F (Kd.V_mono (ok' := (fun k_ => some k_ ≠ (.slice (some ad289) t212.length co9 : Value).ownBlock ∧ some k_ ≠ (.slice (some ad294) t215.length co203 : Value).ownBlock ∧ some k_ ≠ (.slice Ao174 t272.length co174 : Value).ownBlock ∧ some k_ ≠ (v297 : Value).ownBlock)) (HL290_0.out) (fun k_ hk => ⟨hk.1.2, ⟨hk.1.1.1, ⟨hk.1.1.2, hk.2⟩⟩⟩))))) (Reps.none _ _))))
   intro v292 w206 ho207 hb hg_ hnew_
   have HS0_ := (hb.cell (World.block_lt_of_cell? _ _ (hHeld.1))).trans (hHeld.1)
   have HS1_ := (hb.cell (World.block_lt_of_cell? _ _ (hHeld.2.1))).trans (hHeld.2.1)
   have HS2_ := (hb.cell (World.block_lt_of_cell? _ _ (hHeld.2.2.1))).trans (hHeld.2.2.1)
   have HS3_ := (hb.cell (World.block_lt_of_cell? _ _ (hHeld.2.2.2.1))).trans (hHeld.2.2.2.1)
   have HS4_ := (hb.cell (World.block_lt_of_cell? _ _ (hHeld.2.2.2.2.1))).trans (hHeld.2.2.2.2.1)
   have HS5_ := (hb.cell (World.block_lt_of_cell? _ _ (hHeld.2.2.2.2.2))).trans (hHeld.2.2.2.2.2)
   clear hg_ hnew_
   (first | rw [← Ny291.out] at ho207 | (simp only [Int.reduceToNat] at ho207; rw [← Ny291.out] at ho207))
   have n0_ := Aside0.mk (Kd.N_elder' (by (with_reducible repeat (first | apply Kd.N_alloc | apply Kd.N_drewN | apply Kd.N_drew)); exact HO_4.out) (Kd.N_base ho207) hb)
   have n1_ := Aside0.mk (Kd.R_below (by (with_reducible repeat (first | apply Kd.R_alloc | apply Kd.R_drewN | apply Kd.R_drew)); exact HO_5.out) hb)
   have n2_ := Aside0.mk (Kd.N_elder' (by (with_reducible repeat (first | apply Kd.N_alloc | apply Kd.N_drewN | apply Kd.N_drew)); exact HO_19.out) (Kd.N_base ho207) hb)
   have n3_ := Aside0.mk (Kd.V_elder' (by (with_reducible repeat (first | apply Kd.V_alloc | apply Kd.V_drewN | apply Kd.V_drew)); exact HL289_0.out) (Kd.N_base ho207) hb)
   have n4_ := Aside0.mk (Kd.V_elder' (by (with_reducible repeat (first | apply Kd.V_alloc | apply Kd.V_drewN | apply Kd.V_drew)); exact HL290_0.out) (Kd.N_base ho207) hb)
   have n5_ := Aside0.mk (Kd.R_below (by (with_reducible repeat (first | apply Kd.R_alloc | apply Kd.R_drewN | apply Kd.R_drew)); exact HO298.out) hb)
   have n6_ := Aside0.mk (Kd.N_lower ho207 (below_size (by repeat (first | (with_reducible first | exact HB.out | apply below_alloc | apply pw_below_drewN | apply below_drew1) | exact HB.out))))
   have n7_ := Aside0.mk (Kd.C_below (by repeat (first | (with_reducible exact HR289_0.out) | (with_reducible refine Kd.C_alloc ?_ _) | (with_reducible refine Kd.C_drewN ?_ _) | (with_reducible refine Kd.C_drew ?_) | exact HR289_0.out)) hb)
   have n8_ := Aside0.mk (Kd.C_below (by repeat (first | (with_reducible exact HR290_0.out) | (with_reducible refine Kd.C_alloc ?_ _) | (with_reducible refine Kd.C_drewN ?_ _) | (with_reducible refine Kd.C_drew ?_) | exact HR290_0.out)) hb)
   have n9_ := Aside0.mk (below_step (by repeat (first | (with_reducible first | exact HB.out | apply below_alloc | apply pw_below_drewN | apply below_drew1) | exact HB.out)) hb)
   clear HO_4
   clear HO_5
   clear HO_19
   clear HL289_0
   clear HL290_0
   clear HO298
   clear HR289_0
   clear HR290_0
   clear HB
   have HO_4 := n0_
   have HO_5 := n1_
   have HO_19 := n2_
   have HL289_0 := n3_
   have HL290_0 := n4_
   have HO298 := n5_
   have HO293 := n6_
   have HR289_0 := n7_
   have HR290_0 := n8_
   have HB := n9_
   clear n0_ n1_ n2_ n3_ n4_ n5_ n6_ n7_ n8_ n9_
   clear hb ho207
   refine hK.out _ _ ⟨HS0_, HS1_, HS2_, HS3_, HS4_, HS5_⟩ (fun hHeld => ?_)
   clear hK K
   refine norm_ (a' := ?_) ?_ ?_
   rotate_left
   ·show Act.put _ (some 391) _ = _
    simp only [Act.put, List.setIfInBounds_toArray, List.set_cons_zero, List.set_cons_succ, i64_w, i32_w]
    rfl
   exact norm_ (by simp only [putAll, Act.put, List.setIfInBounds_toArray, List.set_cons_zero, List.set_cons_succ]) (hCont (v292, v297) _ ⟨hHeld, (by (with_reducible repeat (first | apply Kd.V_alloc | apply Kd.V_drewN | apply Kd.V_drew)); exact Kd.V_mono HL289_0.out (fun _ hk => ⟨hk.2, ⟨hk.1.2, ⟨hk.1.1.1.2, ⟨hk.1.1.2, hk.1.1.1.1⟩⟩⟩⟩)), (by (with_reducible repeat (first | apply Kd.V_alloc | apply Kd.V_drewN | apply Kd.V_drew)); exact Kd.V_mono HL290_0.out (fun _ hk => ⟨hk.2, ⟨hk.1.2, ⟨hk.1.1.1.2, ⟨hk.1.1.2, hk.1.1.1.1⟩⟩⟩⟩)), (by (with_reducible repeat (first | apply Kd.N_alloc | apply Kd.N_drewN | apply Kd.N_drew)); exact Kd.N_mono HO293.out (fun _ hk => ⟨hk.2.2.2, ⟨hk.2.2.1, ⟨hk.1, hk.2.1⟩⟩⟩)), (by (with_reducible repeat (first | apply Kd.R_alloc | apply Kd.R_drewN | apply Kd.R_drew)); exact Kd.R_mono HO298.out (fun _ hk => hk.2)), (by (with_reducible repeat (first | apply Kd.N_alloc | apply Kd.N_drewN | apply Kd.N_drew)); exact Kd.N_mono HO_19.out (fun _ hk => ⟨hk.2, ⟨hk.1.2, ⟨hk.1.1.1, hk.1.1.2⟩⟩⟩)), (by (with_reducible repeat (first | apply Kd.N_alloc | apply Kd.N_drewN | apply Kd.N_drew)); exact Kd.N_mono HO_4.out (fun _ hk => ⟨hk.2, ⟨hk.1.2, ⟨hk.1.1.2, hk.1.1.1⟩⟩⟩)), (by (with_reducible repeat (first | apply Kd.R_alloc | apply Kd.R_drewN | apply Kd.R_drew)); exact Kd.R_mono HO_5.out (fun _ hk => hk.2)), (by repeat (first | (with_reducible first | exact HB.out | apply below_alloc | apply pw_below_drewN | apply below_drew1) | exact HB.out))⟩)
 rintro ⟨v292, v297⟩ w208 ⟨hS_, h0_, h1_, h2_, h3_, h4_, h5_, h6_, h7_⟩
 have n0_ : Aside0 (Kd.V (Kd.int .i64) 3 w208 w.heap.size (fun k_ => some k_ ≠ (v292 : Value).ownBlock ∧ some k_ ≠ (v297 : Value).ownBlock ∧ some k_ ≠ (.slice Ao174 t272.length co174 : Value).ownBlock ∧ some k_ ≠ (.slice (some ad289) t212.length co9 : Value).ownBlock ∧ some k_ ≠ (.slice (some ad294) t215.length co203 : Value).ownBlock) (.slice A289_0 (rd_L3 t212 0).length c289_0) (rd_L3 t212 0)) := ⟨h0_⟩
 have n1_ : Aside0 (Kd.V (Kd.int .i64) 3 w208 w.heap.size (fun k_ => some k_ ≠ (v292 : Value).ownBlock ∧ some k_ ≠ (v297 : Value).ownBlock ∧ some k_ ≠ (.slice Ao174 t272.length co174 : Value).ownBlock ∧ some k_ ≠ (.slice (some ad289) t212.length co9 : Value).ownBlock ∧ some k_ ≠ (.slice (some ad294) t215.length co203 : Value).ownBlock) (.slice A289_0 (rd_L3 t212 0).length c289_0) (rd_L3 t212 0)) := ⟨h1_⟩
 have n2_ : Aside0 (Kd.N (Kd.slice 3 (Kd.int .i64)) 27 w208 w.heap.size (fun k_ => some k_ ≠ (v297 : Value).ownBlock ∧ some k_ ≠ (.slice Ao174 t272.length co174 : Value).ownBlock ∧ some k_ ≠ (.slice (some ad289) t212.length co9 : Value).ownBlock ∧ some k_ ≠ (.slice (some ad294) t215.length co203 : Value).ownBlock) v292 y291) := ⟨h2_⟩
 have n3_ : Aside0 (Kd.R k44 44 w208 w.heap.size (fun k_ => some k_ ≠ (.slice (some ad294) t215.length co203 : Value).ownBlock) v297 y296) := ⟨h3_⟩
 have n4_ : Aside0 (Kd.N (Kd.slice 3 (Kd.int .i64)) 27 w208 w.heap.size (fun k_ => some k_ ≠ (v292 : Value).ownBlock ∧ some k_ ≠ (v297 : Value).ownBlock ∧ some k_ ≠ (.slice (some ad289) t212.length co9 : Value).ownBlock ∧ some k_ ≠ (.slice (some ad294) t215.length co203 : Value).ownBlock) (.slice Ao174 t272.length co174) t272) := ⟨h4_⟩
 have n5_ : Aside0 (Kd.N (Kd.slice 3 (Kd.int .i64)) 27 w208 w.heap.size (fun k_ => some k_ ≠ (v292 : Value).ownBlock ∧ some k_ ≠ (v297 : Value).ownBlock ∧ some k_ ≠ (.slice Ao174 t272.length co174 : Value).ownBlock ∧ some k_ ≠ (.slice (some ad294) t215.length co203 : Value).ownBlock) (.slice (some ad289) t212.length co9) t212) := ⟨h5_⟩
 have n6_ : Aside0 (Kd.R k44 44 w208 w.heap.size (fun k_ => some k_ ≠ (v297 : Value).ownBlock) (.slice (some ad294) t215.length co203) t215) := ⟨h6_⟩
 have n7_ : Aside0 (Below w.heap.size w w208) := ⟨h7_⟩
 clear HO_4
 clear HO_5
 clear HO_19
 clear HB
 clear h0_ h1_ h2_ h3_ h4_ h5_ h6_ h7_
 have HL289_0 := n0_
 have HL290_0 := n1_
 have HO293 := n2_
 have HO298 := n3_
 have HO_19 := n4_
 have HO_4 := n5_
 have HO_5 := n6_
 have HB := n7_
 clear n0_ n1_ n2_ n3_ n4_ n5_ n6_ n7_
 have hHeld : w208.cell? ad289 = some (.slice A289_0 (rd_L3 t212 0).length c289_0) ∧ w208.cell? ad289 = some (.slice A289_0 (rd_L3 t212 0).length c289_0) ∧ w208.cell? ad294 = some (.int .i64 ((rd_T44 t215 0).f0)) ∧ w208.cell? ⟨ad294.block, ad294.off + 1, none⟩ = some (.int .i64 ((rd_T44 t215 0).f1)) ∧ w208.cell? ad294 = some (.int .i64 ((rd_T44 t215 0).f0)) ∧ w208.cell? ⟨ad294.block, ad294.off + 1, none⟩ = some (.int .i64 ((rd_T44 t215 0).f1)) := hS_
 obtain ⟨Ao209, co209, eo209⟩ := Kd.N_slice HO293.out
 (first | subst eo209 | (injection eo209 with f1_ f2_ f3_; have f4_ := f1_.symm; have f5_ := f3_.symm; clear f1_ f2_ f3_; subst f4_; subst f5_))
 obtain ⟨Ao210, co210, eo210⟩ := Kd.R_slice HO298.out
 (first | subst eo210 | (injection eo210 with f1_ f2_ f3_; have f4_ := f1_.symm; have f5_ := f3_.symm; clear f1_ f2_ f3_; subst f4_; subst f5_))
 refine norm_ (a' := ?_) ?_ ?_
 rotate_left
 ·simp only [putAll, Act.put, List.setIfInBounds_toArray, List.set_cons_zero, List.set_cons_succ]
  rfl
 refine one_ (i := 30) (N := some 399) (qB_ 34 2147483647) rfl rfl (one_of HT_.out (by kernel_rfl)) (by decide) (fun K hK => ?_)
 refine goes_ Try.func23 (by kernel_rfl) rfl #[.slice Ao209 y291.length co209, .slice Ao210 y296.length co210] (by rfl) rfl rfl (by (try simp only [List.map_toArray, List.map_cons, List.map_nil]); first | done | rfl | (simp only [List.length_drop, List.length_take]; rfl)) ?_
 with_reducible refine (impl_DoOverlap.calls k6 _ _ y291 _ _ y296 t299 _ ?side1 ?side2 ?side3 ?side4 A200.out).mono ?_
 (case side1 => repeat (first | exact (Kd.N_reads' HO293.out).2.2 | (with_reducible refine Kd.C_alloc ?_ _) | (with_reducible refine Kd.C_drewN ?_ _) | (with_reducible refine Kd.C_drew ?_)))
 (case side2 => exact (Kd.N_reads' HO293.out).2.1)
 (case side3 => repeat (first | exact (Kd.R_reads' HO298.out).2.2 | (with_reducible refine Kd.C_alloc ?_ _) | (with_reducible refine Kd.C_drewN ?_ _) | (with_reducible refine Kd.C_drew ?_)))
 (case side4 => exact (Kd.R_reads' HO298.out).2.1)
 rintro e w211 ⟨rfl, hb⟩
 have HS0_ := (hb.cell (World.block_lt_of_cell? _ _ (hHeld.1))).trans (hHeld.1)
 have HS1_ := (hb.cell (World.block_lt_of_cell? _ _ (hHeld.2.1))).trans (hHeld.2.1)
 have HS2_ := (hb.cell (World.block_lt_of_cell? _ _ (hHeld.2.2.1))).trans (hHeld.2.2.1)
 have HS3_ := (hb.cell (World.block_lt_of_cell? _ _ (hHeld.2.2.2.1))).trans (hHeld.2.2.2.1)
 have HS4_ := (hb.cell (World.block_lt_of_cell? _ _ (hHeld.2.2.2.2.1))).trans (hHeld.2.2.2.2.1)
 have HS5_ := (hb.cell (World.block_lt_of_cell? _ _ (hHeld.2.2.2.2.2))).trans (hHeld.2.2.2.2.2)
 refine ⟨_, rfl, ?_⟩
 have n0_ := Aside0.mk (Kd.N_below (by (with_reducible repeat (first | apply Kd.N_alloc | apply Kd.N_drewN | apply Kd.N_drew)); exact HO_4.out) hb)
 have n1_ := Aside0.mk (Kd.R_below (by (with_reducible repeat (first | apply Kd.R_alloc | apply Kd.R_drewN | apply Kd.R_drew)); exact HO_5.out) hb)
 have n2_ := Aside0.mk (Kd.N_below (by (with_reducible repeat (first | apply Kd.N_alloc | apply Kd.N_drewN | apply Kd.N_drew)); exact HO_19.out) hb)
 have n3_ := Aside0.mk (Kd.V_below (by (with_reducible repeat (first | apply Kd.V_alloc | apply Kd.V_drewN | apply Kd.V_drew)); exact HL289_0.out) hb)
 have n4_ := Aside0.mk (Kd.V_below (by (with_reducible repeat (first | apply Kd.V_alloc | apply Kd.V_drewN | apply Kd.V_drew)); exact HL290_0.out) hb)
 have n5_ := Aside0.mk (Kd.N_below (by (with_reducible repeat (first | apply Kd.N_alloc | apply Kd.N_drewN | apply Kd.N_drew)); exact HO293.out) hb)
 have n6_ := Aside0.mk (Kd.R_below (by (with_reducible repeat (first | apply Kd.R_alloc | apply Kd.R_drewN | apply Kd.R_drew)); exact HO298.out) hb)
 have n7_ := Aside0.mk (below_step (by repeat (first | (with_reducible first | exact HB.out | apply below_alloc | apply pw_below_drewN | apply below_drew1) | exact HB.out)) hb)
 clear HO_4
 clear HO_5
 clear HO_19
 clear HL289_0
 clear HL290_0
 clear HO293
 clear HO298
 clear HB
 have HO_4 := n0_
 have HO_5 := n1_
 have HO_19 := n2_
 have HL289_0 := n3_
 have HL290_0 := n4_
 have HO293 := n5_
 have HO298 := n6_
 have HB := n7_
 clear n0_ n1_ n2_ n3_ n4_ n5_ n6_ n7_
 (try clear hb)
 (try clear hb2)
 (try clear hk)
 (try clear hi)
 refine hK.out _ _ ⟨HS0_, HS1_, HS2_, HS3_, HS4_, HS5_⟩ (fun hHeld => ?_)
 clear hK K
 refine norm_ (a' := ?_) ?_ ?_
 rotate_left
 ·show Act.put _ (some 399) _ = _
  simp only [Act.put, List.setIfInBounds_toArray, List.set_cons_zero, List.set_cons_succ, i64_w, i32_w]
  rfl
 refine pz_ 31 400 (v := ?_) (a' := ?_) (qB_ 34 4294967295) HT_ ?zy ?zp ?_; (case zy => intro w'; go_simp; with_reducible rfl); (case zp => simp only [Act.put, List.setIfInBounds_toArray, List.set_cons_zero, List.set_cons_succ, i64_w, i32_w]; rfl)
 refine pz_ 32 401 (v := ?_) (a' := ?_) (qB_ 34 8589934591) HT_ ?zy ?zp ?_; (case zy => intro w'; go_simp; with_reducible rfl); (case zp => simp only [Act.put, List.setIfInBounds_toArray, List.set_cons_zero, List.set_cons_succ, i64_w, i32_w]; rfl)
 refine pz_ 33 2 (v := ?_) (a' := ?_) (qB_ 34 17179869183) HT_ ?zy ?zp ?_; (case zy => intro w'; go_simp; with_reducible rfl); (case zp => simp only [Act.put, List.setIfInBounds_toArray, List.set_cons_zero, List.set_cons_succ, i64_w, i32_w]; rfl)
 refine done_ (done_of HT_.out (by kernel_rfl)) ?_
 try go_wp2
 go_ret
 exact ⟨by first | rfl | (simp [errW_none, errW_some] <;> rfl) | (simp [*, errW_none, errW_some] <;> rfl), by repeat (first | (with_reducible first | exact HB.out | apply below_alloc | apply pw_below_drewN | apply below_drew1) | exact HB.out)⟩

end Go.Proofs.Ytadloeklhjoohaa.XFnShelves
