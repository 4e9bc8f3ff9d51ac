/- What functions of the program compute, as plain Lean functions, and that Go's calls come to just that: written by wip/tools/xprint.py for the law FnShelves. -/
import Derived.Test.YtadloeklhjoohaaXFnShelvesx0
import Derived.Test.YtadloeklhjoohaaXFnShelvesx1
import Derived.Test.YtadloeklhjoohaaXFnShelvesx3
import Derived.Test.YtadloeklhjoohaaXFnShelvesx4
import Derived.Test.YtadloeklhjoohaaXFnShelvesx5
import Derived.Test.YtadloeklhjoohaaXFnShelvesx6
import Derived.Test.YtadloeklhjoohaaXFnShelvesx7
import Derived.Test.YtadloeklhjoohaaXFnShelvesx8
import Derived.Test.YtadloeklhjoohaaXFnShelvesx9
namespace Go.Proofs.Ytadloeklhjoohaa.XFnShelves
open Go.RowKit Go.Proofs.YtadloeklhjoohaaW.PrintWords Go.Proofs.YtadloeklhjoohaaW.PrintLast Go.Proofs.YtadloeklhjoohaaW.PrintMore
attribute [local go_sem] max2_int min2_int max_two min_two max_three min_three max_four min_four   -- for this text's walks alone
set_option linter.unusedVariables false
set_option linter.unusedSimpArgs false

/-! ### laws_FnShelves: function 4 -/
set_option maxHeartbeats 8000000 in
set_option maxRecDepth 100000 in
noncomputable def laws_FnShelves.calls.part3 : PSigma fun P1260_ : Prop => Hole P1260_ → (laws_FnShelves.calls.part2.1) := by
 refine' ⟨_, fun hP1260_ => ?_⟩
 rotate_left 1
 intro k A0 c0 l0 r w HT hu44 HR0 HC0 t211 t212 A3 t215 t216 A4 t219 t220 A5 t223 A6 t226 A7 _ w8 Ao9 co9 w10 v217 w11 v221 w12 w13 HO218 HO222 _ _ _ u13 _ _ _ _ _ _ _ _ _ _ _ x11_1 x50_1 _ _ _ k1 _ HK1 _ _ wc u23 u24 u25 u26 u27 u28 u29 u30 u31 u32 u33 u34 u35 u36 u37 u38 u39 u40 u41 u42 u43 u44 u45 u46 u47 u51 u52 u53 u54 u55 u56 u57 u58 u59 u60 u61 u62 u63 u64 u65 u66 u67 u68 u69 u70 u71 u72 u73 u74 u75 u76 u77 u78 u79 u80 u81 u82 u83 u84 u85 u86 u87 u88 u89 u90 u91 u92 u93 u94 u95 u96 u97 u98 u99 u100 u101 u102 u103 u104 u105 u106 u107 u108 u109 u110 u111 u112 u113 u114 u115 u116 u117 u118 u119 u120 u121 u122 u123 u124 u125 u126 u127 u128 u129 u131 _ _ _ _ _ _ _ _ _ _ _ _ _ _ _ _ _ _ _ _ _ _ _ _ _ _ _ _ _ _ _ _ _ _ _ _ _ _ _ _ _ _ _ _ _ _ _ _ _ _ _ _ _ _ _ _ _ _ _ _ _ _ _ _ _ _ _ _ _ _ _ _ _ _ _ _ _ _ _ _ _ _ _ _ _ _ _ _ _ _ _ _ _ _ _ _ _ _ _ _ _ _ _ _ _ _ _ _ _ _ _ _ _ _ _ _ _ _ _ _ _ _ _ _ _ _ _ _ _ _ _ _ _ _ _ _ _ _ _ _ _ _ _ _ _ _ _ _ _ _ _ _ _ _ _ _ _ _ _ _ u298 u299 u300 u301 u302 u303 u304 u305 u306 u307 u308 u309 u310 u311 u312 u313 u314 u315 u316 u317 u318 u322 u323 u324 u325 u326 u327 u328 u329 u330 u331 u332 u333 u334 u335 u336 u337 u338 u339 u340 u341 u342 u343 u344 u345 u346 u347 u348 u349 u350 u351 u352 u353 u354 u355 u356 u357 u358 u359 u360 u361 u362 u363 u364 u365 u366 u367 u368 u369 u370 u371 u372 u373 u374 u375 u376 u377 u378 u379 u380 u381 u382 u383 u384 u385 u386 u387 u388 u389 u390 u391 u392 u393 u394 u395 u396 u397 u398 u399 u400 u401 kj18 HJ18 y234 Ny234 v235 w81 _ _ _ Ao83 co83 HO214 HO225 _ _ _ _ _ HO236 _ _ _ u14 u15 u16 u135 u136 u137 u138 u139 u140 u141 u142 u143 u144 u145 u146 u147 u148 u149 u150 u151 u152 u153 u154 u155 u156 u157 u158 u159 u160 u161 u162 u163 u164 u165 u166 u167 u168 u169 u170 u171 u172 u173 u174 u175 u176 u177 u178 u179 u180 u181 u182 u183 u184 u185 u186 u187 u188 u189 u190 u191 u192 u193 u194 u195 u196 u197 u198 u199 u200 u201 u202 u203 u204 u205 u206 u207 _ _ _ x14_3 x134_3 HO_4 HO_5 HO_7 HO_9 HO_14 HB k3 _ HK3 c84b0 H' _ _ _ _ gk wr u2 u17 u18 u210 u211 u212 u213 u214 u215 u216 u217 u218 u219 u220 u221 u222 u223 u224 u225 u226 u227 u228 u229 u230 u231 u232 u233 u234 u235 u236 u237 u238 u239 u240 u241 u242 u243 u244 u245 u246 u247 u248 u249 u250 u251 u252 u253 u254 u255 u256 u257 u258 u259 u260 u261 u262 u263 u264 u265 u266 u267 u268 u269 u270 u271 u272 u273 u274 u275 u276 u277 u278 u279 u280 u281 u282 u283 u284 u285 u286 u287 u288 u289 u290 u291 u292 u293 u294 u295 u296 u297 hrel _ _ _ _
 clear H'
 (try clear c1); (try clear c2); (try clear p2); (try clear q2); (try clear hx2); (try clear p6); (try clear c8); (try clear c9); (try clear c10); (try clear c11); (try clear c12); (try clear p23); (try clear q23); (try clear hx23); (try clear c24); (try clear p64); (try clear c84); (try clear c84b0); (try clear c85); (try clear c86); (try clear c95); (try clear c95b0); (try clear c97); (try clear c98); (try clear c99); (try clear c100); (try clear c101); (try clear c102); (try clear c103); (try clear c104); (try clear c116); (try clear c120); (try clear hx237_0); (try clear p237); (try clear q237)
 obtain ⟨x210_4, rfl, HA, HK4, HO_4, HO_5, HO_7, HB⟩ := hrel
 cases gk with
 | zero => exact absurd HA.out (by simp [laws_FnShelves.l2])
 | succ k4 =>
  have H := HA.out
  clear HA
  simp only [laws_FnShelves.l2] at H
  by_cases c124 : x210_4 < (t212.length : Int)
  ·rw [if_pos c124] at H
   have c124b0 : decide (x210_4 < (t212.length : Int)) = true := decide_eq_true c124
   clear c124
   by_cases c125 : 0 ≤ x210_4
   rotate_left
   ·rw [if_neg c125] at H
    exact absurd H (by simp)
   rw [if_pos c125] at H
   have c125b0 : decide (0 ≤ x210_4) = true := decide_eq_true c125
   clear c125
   by_cases c126 : x210_4 < (t212.length : Int)
   rotate_left
   ·rw [if_neg c126] at H
    exact absurd H (by simp)
   rw [if_pos c126] at H
   have c126b0 : decide (x210_4 < (t212.length : Int)) = true := decide_eq_true c126
   clear c126
   by_cases c127 : x210_4 < (t215.length : Int)
   rotate_left
   ·rw [if_neg c127] at H
    exact absurd H (by simp)
   rw [if_pos c127] at H
   have c127b0 : decide (x210_4 < (t215.length : Int)) = true := decide_eq_true c127
   clear c127
   by_cases c128 : ((rd_T44 t215 x210_4).f0) < 0
   ·rw [if_pos c128] at H
    exact (laws_FnShelves.no_false HT H).elim
   rw [if_neg c128] at H
   have c128b0 : decide (((rd_T44 t215 x210_4).f0) < 0) = false := decide_eq_false c128
   clear c128
   by_cases c131 : ((rd_T44 t215 x210_4).f1) < 0
   ·rw [if_pos c131] at H
    exact (laws_FnShelves.no_false HT H).elim
   rw [if_neg c131] at H
   have c131b0 : decide (((rd_T44 t215 x210_4).f1) < 0) = false := decide_eq_false c131
   clear c131
   by_cases c134 : x210_4 < (t219.length : Int)
   rotate_left
   ·rw [if_neg c134] at H
    exact absurd H (by simp)
   rw [if_pos c134] at H
   have c134b0 : decide (x210_4 < (t219.length : Int)) = true := decide_eq_true c134
   clear c134
   by_cases c135 : ((rd_T44 t219 x210_4).f0) < 0
   ·rw [if_pos c135] at H
    exact (laws_FnShelves.no_false HT H).elim
   rw [if_neg c135] at H
   have c135b0 : decide (((rd_T44 t219 x210_4).f0) < 0) = false := decide_eq_false c135
   clear c135
   by_cases c139 : ((rd_T44 t219 x210_4).f1) < 0
   ·rw [if_pos c139] at H
    exact (laws_FnShelves.no_false HT H).elim
   rw [if_neg c139] at H
   have c139b0 : decide (((rd_T44 t219 x210_4).f1) < 0) = false := decide_eq_false c139
   clear c139
   by_cases c143 : 0 < ((rd_L3 t212 x210_4).length : Int)
   rotate_left
   ·rw [if_neg c143] at H
    exact absurd H (by simp)
   rw [if_pos c143] at H
   have c143b0 : decide (0 < ((rd_L3 t212 x210_4).length : Int)) = true := decide_eq_true c143
   have c143b1 : decide (0 < (rd_L3 t212 x210_4).length) = true := decide_eq_true (by omega)
   clear c143
   by_cases c144 : (wrap64 (((rd_T44 t215 x210_4).f0) + (rd (rd_L3 t212 x210_4) 0))) > t211
   ·rw [if_pos c144] at H
    exact (laws_FnShelves.no_false HT H).elim
   rw [if_neg c144] at H
   have c144b0 : decide (t211 < (wrap64 (((rd_T44 t215 x210_4).f0) + (rd (rd_L3 t212 x210_4) 0)))) = false := decide_eq_false c144
   clear c144
   by_cases c148 : (wrap64 (((rd_T44 t219 x210_4).f0) + (rd (rd_L3 t212 x210_4) 0))) > t211
   ·rw [if_pos c148] at H
    exact (laws_FnShelves.no_false HT H).elim
   rw [if_neg c148] at H
   have c148b0 : decide (t211 < (wrap64 (((rd_T44 t219 x210_4).f0) + (rd (rd_L3 t212 x210_4) 0)))) = false := decide_eq_false c148
   clear c148
   by_cases c152 : 1 < ((rd_L3 t212 x210_4).length : Int)
   rotate_left
   ·rw [if_neg c152] at H
    exact absurd H (by simp)
   rw [if_pos c152] at H
   have c152b0 : decide (1 < ((rd_L3 t212 x210_4).length : Int)) = true := decide_eq_true c152
   have c152b1 : decide (1 < (rd_L3 t212 x210_4).length) = true := decide_eq_true (by omega)
   clear c152
   by_cases c153 : (wrap64 (((rd_T44 t215 x210_4).f1) + (rd (rd_L3 t212 x210_4) 1))) > t216
   ·rw [if_pos c153] at H
    exact (laws_FnShelves.no_false HT H).elim
   rw [if_neg c153] at H
   have c153b0 : decide (t216 < (wrap64 (((rd_T44 t215 x210_4).f1) + (rd (rd_L3 t212 x210_4) 1)))) = false := decide_eq_false c153
   clear c153
   by_cases c157 : (wrap64 (((rd_T44 t219 x210_4).f1) + (rd (rd_L3 t212 x210_4) 1))) > t220
   ·rw [if_pos c157] at H
    exact (laws_FnShelves.no_false HT H).elim
   rw [if_neg c157] at H
   have c157b0 : decide (t220 < (wrap64 (((rd_T44 t219 x210_4).f1) + (rd (rd_L3 t212 x210_4) 1)))) = false := decide_eq_false c157
   clear c157
   have H' := Aside0.mk H
   clear H
   have p259 : 0 ≤ (x210_4 : Int) := of_decide_eq_true (by first | (with_reducible assumption) | assumption)
   have q259 : x210_4 < (t212.length : Int) := of_decide_eq_true (by first | (with_reducible assumption) | assumption)
   obtain ⟨ad259, A259_0, c259_0, e259, hx259_0, hl259_0, hi259_0⟩ := at_L3 (Kd.N_reads' HO_4.out).2.2 x210_4 p259 q259
   cases e259
   obtain ⟨ce259, hce259, hMe259, hcc259⟩ := Kd.N_get HO_4.out [] x210_4 p259 (by first | exact q259 | exact of_decide_eq_true (by first | (with_reducible assumption) | assumption) | (have e_ := (Kd.N_reads' HO_4.out).1; omega))
   obtain ⟨ua259_0, uc259_0, rfl, ul259_0, ge259_0⟩ := Kd.FK_slice_open hMe259
   have hv259_0 := hcc259 0 _ rfl
   rw [Nat.add_zero, show ((Kd.slice 3 (Kd.int .i64))).sz = 1 from rfl, Nat.mul_one] at hv259_0
   replace hv259_0 := Option.some.inj (hv259_0.symm.trans hx259_0)
   injection hv259_0 with hva_ hvn_ hvc_
   rw [hva_] at ge259_0
   rw [hvc_] at ul259_0
   have HL259_0 := Aside0.mk (show Kd.V (Kd.int .i64) 3 _ w.heap.size _ _ (rd_L3 t212 x210_4) from Kd.V_mk ul259_0 ge259_0)
   clear hva_ hvn_ hvc_ ge259_0 ul259_0
   clear hcc259 hce259
   have HR259_0 := Aside0.mk hi259_0
   have HC259_0 := Aside0.mk hl259_0
   clear hi259_0 hl259_0
   replace p259 := eq_true p259
   replace q259 := eq_true q259
   try go_wp2
   have n0_ := Aside0.mk (Kd.N_drew HO_4.out)
   have n1_ := Aside0.mk (Kd.R_drew HO_5.out)
   have n2_ := Aside0.mk (Kd.R_drew HO_7.out)
   have n3_ := Aside0.mk (Kd.V_drew HL259_0.out)
   have n4_ := Aside0.mk (Kd.C_drew HR259_0.out)
   have n5_ := Aside0.mk (below_drew1 HB.out)
   clear HO_4
   clear HO_5
   clear HO_7
   clear HL259_0
   clear HR259_0
   clear HB
   have HO_4 := n0_
   have HO_5 := n1_
   have HO_7 := n2_
   have HL259_0 := n3_
   have HR259_0 := n4_
   have HB := n5_
   clear n0_ n1_ n2_ n3_ n4_ n5_
   obtain ⟨Ao162, co162, eo162⟩ := Kd.R_slice HO_5.out
   (first | subst eo162 | (injection eo162 with f1_ f2_ f3_; have f4_ := f1_.symm; have f5_ := f3_.symm; clear f1_ f2_ f3_; subst f4_; subst f5_))
   have p260 : 0 ≤ (x210_4 : Int) := of_decide_eq_true (by first | (with_reducible assumption) | assumption)
   have q260 : x210_4 < (t215.length : Int) := of_decide_eq_true (by first | (with_reducible assumption) | assumption)
   obtain ⟨ad260, e260, hx260_0, hx260_1⟩ := at_T44 (Kd.R_reads' HO_5.out).2.2 x210_4 p260 q260
   cases e260
   replace p260 := eq_true p260
   replace q260 := eq_true q260
   have p261 : 0 ≤ (x210_4 : Int) := of_decide_eq_true (by first | (with_reducible assumption) | assumption)
   have q261 : x210_4 < (t215.length : Int) := of_decide_eq_true (by first | (with_reducible assumption) | assumption)
   obtain ⟨ad261, e261, hx261_0, hx261_1⟩ := at_T44 (Kd.R_reads' HO_5.out).2.2 x210_4 p261 q261
   obtain rfl : ad260 = ad261 := (by injection e261)
   replace p261 := eq_true p261
   replace q261 := eq_true q261
   obtain ⟨Ao163, co163, eo163⟩ := Kd.R_slice HO_7.out
   (first | subst eo163 | (injection eo163 with f1_ f2_ f3_; have f4_ := f1_.symm; have f5_ := f3_.symm; clear f1_ f2_ f3_; subst f4_; subst f5_))
   have p262 : 0 ≤ (x210_4 : Int) := of_decide_eq_true (by first | (with_reducible assumption) | assumption)
   have q262 : x210_4 < (t219.length : Int) := of_decide_eq_true (by first | (with_reducible assumption) | assumption)
   obtain ⟨ad262, e262, hx262_0, hx262_1⟩ := at_T44 (Kd.R_reads' HO_7.out).2.2 x210_4 p262 q262
   cases e262
   replace p262 := eq_true p262
   replace q262 := eq_true q262
   have p263 : 0 ≤ (x210_4 : Int) := of_decide_eq_true (by first | (with_reducible assumption) | assumption)
   have q263 : x210_4 < (t219.length : Int) := of_decide_eq_true (by first | (with_reducible assumption) | assumption)
   obtain ⟨ad263, e263, hx263_0, hx263_1⟩ := at_T44 (Kd.R_reads' HO_7.out).2.2 x210_4 p263 q263
   obtain rfl : ad262 = ad263 := (by injection e263)
   replace p263 := eq_true p263
   replace q263 := eq_true q263
   have p264 : 0 ≤ (x210_4 : Int) := of_decide_eq_true (by first | (with_reducible assumption) | assumption)
   have q264 : x210_4 < (t215.length : Int) := of_decide_eq_true (by first | (with_reducible assumption) | assumption)
   obtain ⟨ad264, e264, hx264_0, hx264_1⟩ := at_T44 (Kd.R_reads' HO_5.out).2.2 x210_4 p264 q264
   obtain rfl : ad260 = ad264 := (by injection e264)
   replace p264 := eq_true p264
   replace q264 := eq_true q264
   have p265 : 0 ≤ (0 : Int) := (by omega)
   have q265 : 0 < ((rd_L3 t212 x210_4).length : Int) := of_decide_eq_true (by first | (with_reducible assumption) | assumption)
   obtain ⟨ad265, e265, hx265_0⟩ := Kd.at_int (by repeat (first | (with_reducible exact HR259_0.out) | (with_reducible refine Kd.C_alloc ?_ _) | (with_reducible refine Kd.C_drewN ?_ _) | (with_reducible refine Kd.C_drew ?_) | exact HR259_0.out)) 0 p265 q265
   cases e265
   have qi265 : (0 < (rd_L3 t212 x210_4).length) = True := eq_true (by omega)
   (try rw [show ((0 : Int)).toNat = 0 from rfl] at hx265_0)
   (try rw [Addr.add_zero'] at hx265_0)
   replace p265 := eq_true p265
   replace q265 := eq_true q265
   have p266 : 0 ≤ (x210_4 : Int) := of_decide_eq_true (by first | (with_reducible assumption) | assumption)
   have q266 : x210_4 < (t219.length : Int) := of_decide_eq_true (by first | (with_reducible assumption) | assumption)
   obtain ⟨ad266, e266, hx266_0, hx266_1⟩ := at_T44 (Kd.R_reads' HO_7.out).2.2 x210_4 p266 q266
   obtain rfl : ad262 = ad266 := (by injection e266)
   replace p266 := eq_true p266
   replace q266 := eq_true q266
   have p267 : 0 ≤ (0 : Int) := (by omega)
   have q267 : 0 < ((rd_L3 t212 x210_4).length : Int) := of_decide_eq_true (by first | (with_reducible assumption) | assumption)
   obtain ⟨ad267, e267, hx267_0⟩ := Kd.at_int (by repeat (first | (with_reducible exact HR259_0.out) | (with_reducible refine Kd.C_alloc ?_ _) | (with_reducible refine Kd.C_drewN ?_ _) | (with_reducible refine Kd.C_drew ?_) | exact HR259_0.out)) 0 p267 q267
   obtain rfl : ad265 = ad267 := (by injection e267)
   have qi267 : (0 < (rd_L3 t212 x210_4).length) = True := eq_true (by omega)
   (try rw [show ((0 : Int)).toNat = 0 from rfl] at hx267_0)
   (try rw [Addr.add_zero'] at hx267_0)
   replace p267 := eq_true p267
   replace q267 := eq_true q267
   have p268 : 0 ≤ (x210_4 : Int) := of_decide_eq_true (by first | (with_reducible assumption) | assumption)
   have q268 : x210_4 < (t215.length : Int) := of_decide_eq_true (by first | (with_reducible assumption) | assumption)
   obtain ⟨ad268, e268, hx268_0, hx268_1⟩ := at_T44 (Kd.R_reads' HO_5.out).2.2 x210_4 p268 q268
   obtain rfl : ad260 = ad268 := (by injection e268)
   replace p268 := eq_true p268
   replace q268 := eq_true q268
   have p269 : 0 ≤ (1 : Int) := (by omega)
   have q269 : 1 < ((rd_L3 t212 x210_4).length : Int) := of_decide_eq_true (by first | (with_reducible assumption) | assumption)
   obtain ⟨ad269, e269, hx269_0⟩ := Kd.at_int (by repeat (first | (with_reducible exact HR259_0.out) | (with_reducible refine Kd.C_alloc ?_ _) | (with_reducible refine Kd.C_drewN ?_ _) | (with_reducible refine Kd.C_drew ?_) | exact HR259_0.out)) 1 p269 q269
   obtain rfl : ad265 = ad269 := (by injection e269)
   (try simp only [show (1 : Int).toNat = 1 from rfl, Nat.reduceMul, Nat.reduceEqDiff, Go.Addr.add, ↓reduceIte] at hx269_0)
   have qi269 : (1 < (rd_L3 t212 x210_4).length) = True := eq_true (by omega)
   (try rw [show ((1 : Int)).toNat = 1 from rfl] at hx269_0)
   replace p269 := eq_true p269
   replace q269 := eq_true q269
   have p270 : 0 ≤ (x210_4 : Int) := of_decide_eq_true (by first | (with_reducible assumption) | assumption)
   have q270 : x210_4 < (t219.length : Int) := of_decide_eq_true (by first | (with_reducible assumption) | assumption)
   obtain ⟨ad270, e270, hx270_0, hx270_1⟩ := at_T44 (Kd.R_reads' HO_7.out).2.2 x210_4 p270 q270
   obtain rfl : ad262 = ad270 := (by injection e270)
   replace p270 := eq_true p270
   replace q270 := eq_true q270
   have p271 : 0 ≤ (1 : Int) := (by omega)
   have q271 : 1 < ((rd_L3 t212 x210_4).length : Int) := of_decide_eq_true (by first | (with_reducible assumption) | assumption)
   obtain ⟨ad271, e271, hx271_0⟩ := Kd.at_int (by repeat (first | (with_reducible exact HR259_0.out) | (with_reducible refine Kd.C_alloc ?_ _) | (with_reducible refine Kd.C_drewN ?_ _) | (with_reducible refine Kd.C_drew ?_) | exact HR259_0.out)) 1 p271 q271
   obtain rfl : ad265 = ad271 := (by injection e271)
   (try simp only [show (1 : Int).toNat = 1 from rfl, Nat.reduceMul, Nat.reduceEqDiff, Go.Addr.add, ↓reduceIte] at hx271_0)
   have qi271 : (1 < (rd_L3 t212 x210_4).length) = True := eq_true (by omega)
   (try rw [show ((1 : Int)).toNat = 1 from rfl] at hx271_0)
   replace p271 := eq_true p271
   replace q271 := eq_true q271
   as_aux_lemma =>
    refine start_ (n := 82) (S := fun w' => w'.cell? (ad260.add ((x210_4).toNat * 2)) = some (.int .i64 ((rd_T44 t215 x210_4).f0)) ∧ w'.cell? ⟨(ad260.add ((x210_4).toNat * 2)).block, (ad260.add ((x210_4).toNat * 2)).off + 1, none⟩ = some (.int .i64 ((rd_T44 t215 x210_4).f1)) ∧ w'.cell? (ad260.add ((x210_4).toNat * 2)) = some (.int .i64 ((rd_T44 t215 x210_4).f0)) ∧ w'.cell? ⟨(ad260.add ((x210_4).toNat * 2)).block, (ad260.add ((x210_4).toNat * 2)).off + 1, none⟩ = some (.int .i64 ((rd_T44 t215 x210_4).f1)) ∧ w'.cell? (ad262.add ((x210_4).toNat * 2)) = some (.int .i64 ((rd_T44 t219 x210_4).f0)) ∧ w'.cell? ⟨(ad262.add ((x210_4).toNat * 2)).block, (ad262.add ((x210_4).toNat * 2)).off + 1, none⟩ = some (.int .i64 ((rd_T44 t219 x210_4).f1)) ∧ w'.cell? (ad262.add ((x210_4).toNat * 2)) = some (.int .i64 ((rd_T44 t219 x210_4).f0)) ∧ w'.cell? ⟨(ad262.add ((x210_4).toNat * 2)).block, (ad262.add ((x210_4).toNat * 2)).off + 1, none⟩ = some (.int .i64 ((rd_T44 t219 x210_4).f1)) ∧ w'.cell? (ad260.add ((x210_4).toNat * 2)) = some (.int .i64 ((rd_T44 t215 x210_4).f0)) ∧ w'.cell? ⟨(ad260.add ((x210_4).toNat * 2)).block, (ad260.add ((x210_4).toNat * 2)).off + 1, none⟩ = some (.int .i64 ((rd_T44 t215 x210_4).f1)) ∧ w'.cell? ad265 = some (.int .i64 (rd (rd_L3 t212 x210_4) 0)) ∧ w'.cell? (ad262.add ((x210_4).toNat * 2)) = some (.int .i64 ((rd_T44 t219 x210_4).f0)) ∧ w'.cell? ⟨(ad262.add ((x210_4).toNat * 2)).block, (ad262.add ((x210_4).toNat * 2)).off + 1, none⟩ = some (.int .i64 ((rd_T44 t219 x210_4).f1)) ∧ w'.cell? ad265 = some (.int .i64 (rd (rd_L3 t212 x210_4) 0)) ∧ w'.cell? (ad260.add ((x210_4).toNat * 2)) = some (.int .i64 ((rd_T44 t215 x210_4).f0)) ∧ w'.cell? ⟨(ad260.add ((x210_4).toNat * 2)).block, (ad260.add ((x210_4).toNat * 2)).off + 1, none⟩ = some (.int .i64 ((rd_T44 t215 x210_4).f1)) ∧ w'.cell? ⟨ad265.block, ad265.off + 1, none⟩ = some (.int .i64 (rd (rd_L3 t212 x210_4) 1)) ∧ w'.cell? (ad262.add ((x210_4).toNat * 2)) = some (.int .i64 ((rd_T44 t219 x210_4).f0)) ∧ w'.cell? ⟨(ad262.add ((x210_4).toNat * 2)).block, (ad262.add ((x210_4).toNat * 2)).off + 1, none⟩ = some (.int .i64 ((rd_T44 t219 x210_4).f1)) ∧ w'.cell? ⟨ad265.block, ad265.off + 1, none⟩ = some (.int .i64 (rd (rd_L3 t212 x210_4) 1))) (ds := []) (qC_ 82 0) (by kernel_rfl) rfl rfl ⟨hx260_0, hx260_1, hx261_0, hx261_1, hx262_0, hx262_1, hx263_0, hx263_1, hx264_0, hx264_1, hx265_0, hx266_0, hx266_1, hx267_0, hx268_0, hx268_1, hx269_0, hx270_0, hx270_1, hx271_0⟩ (fun hHeld => ?_); refine with_tabW laws_FnShelves.tab27 laws_FnShelves.bits27 (fun HT_ HW_ => ?_)
    generalize wr.drew = w161 at HO_4 HO_5 HO_7 HL259_0 HR259_0 HB hx260_0 hx260_1 hx261_0 hx261_1 hx262_0 hx262_1 hx263_0 hx263_1 hx264_0 hx264_1 hx265_0 hx266_0 hx266_1 hx267_0 hx268_0 hx268_1 hx269_0 hx270_0 hx270_1 hx271_0 hHeld ⊢
    iterate 82 (first | (refine rz_ HT_ ?zy ?zp ?_ (v := ?_) (a' := ?_); (case zy => intro w'; go_simp; with_reducible rfl); (case zp => simp only [Act.put, List.setIfInBounds_toArray, List.set_cons_zero, List.set_cons_succ, i64_w, i32_w]; rfl)) | (refine rt_ HT_ HW_ hHeld ?zy ?zp ?_ (v := ?_) (a' := ?_); (case zy => rintro w' ⟨s0, s1, s2, s3, s4, s5, s6, s7, s8, s9, s10, s11, s12, s13, s14, s15, s16, s17, s18, s19⟩; go_simp; with_reducible rfl); (case zp => simp only [Act.put, List.setIfInBounds_toArray, List.set_cons_zero, List.set_cons_succ, i64_w, i32_w]; rfl)))
    refine done_ (done_of HT_.out (by kernel_rfl)) ?_
    try go_wp2
    go_roundg k4
    case measure => have := HK1.out; have := HJ18.out; have := HK3.out; have := HK4.out; omega
    case rel => exact ⟨(wrap64 (x210_4 + 1)), (by first | rfl | (simp; done) | (simp [*]; done)), H', ⟨by have := HK1.out; have := HJ18.out; have := HK3.out; have := HK4.out; omega⟩, ⟨by (with_reducible repeat (first | apply Kd.N_alloc | apply Kd.N_drewN | apply Kd.N_drew)); exact HO_4.out⟩, ⟨by (with_reducible repeat (first | apply Kd.R_alloc | apply Kd.R_drewN | apply Kd.R_drew)); exact HO_5.out⟩, ⟨by (with_reducible repeat (first | apply Kd.R_alloc | apply Kd.R_drewN | apply Kd.R_drew)); exact HO_7.out⟩, ⟨by repeat (first | (with_reducible first | exact HB.out | apply below_alloc | apply pw_below_drewN | apply below_drew1) | exact HB.out)⟩⟩
  ·rw [if_neg c124] at H
   have c124b0 : decide (x210_4 < (t212.length : Int)) = false := decide_eq_false c124
   clear c124
   replace H := Option.bind_eq_some_iff.mp H
   obtain ⟨⟨t272, t273⟩, A1640, H⟩ := H
   replace H : (if t273 = true then (if (t272.length : Int) = (t212.length : Int) then ((impl_PiecesFit.f t211 t272).bind fun t276 => (laws_FnShelves.j4 k4 t211 t212 t215 t220 t272 (!t276))) else (laws_FnShelves.j4 k4 t211 t212 t215 t220 t272 true)) else (laws_FnShelves.j4 k4 t211 t212 t215 t220 t272 true)) = some r := H
   have A164 := Aside0.mk A1640
   clear A1640
   have HC165 := Aside0.mk H
   clear H
   go_upto_region 31 with (first | (go_at_call 25; (with_reducible refine (impl_TurnedPieces.calls k4 _ _ t212 t211 t272 t273 _ ?side1 ?side2 A164.out).mono ?_); (case side1 => repeat (first | exact (Kd.N_reads' HO_4.out).2.2 | (with_reducible refine Kd.C_alloc ?_ _) | (with_reducible refine Kd.C_drewN ?_ _) | (with_reducible refine Kd.C_drew ?_))); (case side2 => exact (Kd.N_reads' HO_4.out).2.1); rintro e w166 ⟨v274, rfl, ho0, hb⟩; have n0_ := Aside0.mk (Kd.N_elder' HO_4.out (Kd.S_base ho0) hb); have n1_ := Aside0.mk (Kd.R_below HO_5.out hb); have n2_ := Aside0.mk (Kd.R_below HO_7.out hb); have n3_ := Aside0.mk (Kd.N_lower (Kd.N_mono (ok' := fun k_ => some k_ ≠ (.slice Ao9 t212.length co9 : Value).ownBlock ∧ some k_ ≠ (v217 : Value).ownBlock ∧ some k_ ≠ (v221 : Value).ownBlock) (Kd.S_N (Kd.S_bound ho0)) (fun k_ hk_ => ⟨(Kd.fresh' (Kd.N_lt HO_4.out) k_ hk_.2.1), (Kd.fresh' (Kd.R_lt HO_5.out) k_ hk_.2.1), (Kd.fresh' (Kd.R_lt HO_7.out) k_ hk_.2.1)⟩)) (below_size (by repeat (first | (with_reducible first | exact HB.out | apply below_alloc | apply pw_below_drewN | apply below_drew1) | exact HB.out)))); have n4_ := Aside0.mk (below_step (by repeat (first | (with_reducible first | exact HB.out | apply below_alloc | apply pw_below_drewN | apply below_drew1) | exact HB.out)) hb); clear HO_4; clear HO_5; clear HO_7; clear HB; have HO_4 := n0_; have HO_5 := n1_; have HO_7 := n2_; have HO275 := n3_; have HB := n4_; clear n0_ n1_ n2_ n3_ n4_; (try clear hb); (try clear hb2); (try clear hk); (try clear hi); (try clear ho0)))
   (try simp only [Act.put, List.setIfInBounds_toArray, List.set_cons_zero, List.set_cons_succ])
   go_cut [318] (fun v318 wc => ∃ (kq : Nat) (x318_164 : Bool), v318 = .bool x318_164 ∧ Aside0 (laws_FnShelves.j4 kq t211 t212 t215 t220 t272 x318_164 = some r) ∧ Aside0 (kq ≤ k4) ∧ Aside0 (Kd.N (Kd.slice 3 (Kd.int .i64)) 27 wc w.heap.size (fun k_ => some k_ ≠ (v217 : Value).ownBlock ∧ some k_ ≠ (v274 : Value).ownBlock) (.slice Ao9 t212.length co9) t212) ∧ Aside0 (Kd.R k44 44 wc w.heap.size (fun _ => True) v217 t215) ∧ Aside0 (Kd.N (Kd.slice 3 (Kd.int .i64)) 27 wc w.heap.size (fun k_ => some k_ ≠ ((.slice Ao9 t212.length co9) : Value).ownBlock ∧ some k_ ≠ (v217 : Value).ownBlock) v274 t272) ∧ Aside0 (Below w.heap.size w wc))
   case first =>
    as_aux_lemma =>
     have H := HC165.out
     clear HC165
     by_cases c167 : t273 = true
     rotate_left
     ·replace c167 := Bool.eq_false_iff.mpr c167
      subst c167
      have H1 : (laws_FnShelves.j4 k4 t211 t212 t215 t220 t272 true) = some r := by rw [if_neg (show ¬ (false = true) by decide)] at H; exact H
      exact (laws_FnShelves.j4_dead HT H1).elim
     subst c167
     have H1 : (if (t272.length : Int) = (t212.length : Int) then ((impl_PiecesFit.f t211 t272).bind fun t276 => (laws_FnShelves.j4 k4 t211 t212 t215 t220 t272 (!t276))) else (laws_FnShelves.j4 k4 t211 t212 t215 t220 t272 true)) = some r := by rw [if_pos rfl] at H; exact H
     clear H
     have H := H1
     clear H1
     by_cases c168 : (t272.length : Int) = (t212.length : Int)
     rotate_left
     ·rw [if_neg c168] at H
      exact (laws_FnShelves.j4_dead HT H).elim
     rw [if_pos c168] at H
     have c168b0 : ((t272.length : Int) == (t212.length : Int)) = true := beq_iff_eq.mpr c168
     have c168b1 : ((t272.length : Int) != (t212.length : Int)) = false := bne_eq_false_iff_eq.mpr c168
     have c168b2 : (t272.length == t212.length) = true := by first | simpa using c168 | (simp at c168 ⊢; omega)
     clear c168
     (first | rw [c168b0] | (simp only [i64_w, i32_w]; rw [c168b0]) | skip)
     replace H := Option.bind_eq_some_iff.mp H
     obtain ⟨t276, A1690, H⟩ := H
     replace H : (laws_FnShelves.j4 k4 t211 t212 t215 t220 t272 (!t276)) = some r := H
     have A169 := Aside0.mk A1690
     clear A1690
     have H' := Aside0.mk H
     clear H
     obtain ⟨Ao170, co170, eo170⟩ := Kd.N_slice HO275.out
     subst eo170
     go_wp2_with (first | (go_at_call 21; (with_reducible refine (impl_PiecesFit.calls t211 _ _ t272 t276 _ ?side1 ?side2 A169.out).mono ?_); (case side1 => repeat (first | exact (Kd.N_reads' HO275.out).2.2 | (with_reducible refine Kd.C_alloc ?_ _) | (with_reducible refine Kd.C_drewN ?_ _) | (with_reducible refine Kd.C_drew ?_))); (case side2 => exact (Kd.N_reads' HO275.out).2.1); rintro e w171 ⟨rfl, hb⟩; have n0_ := Aside0.mk (Kd.N_below (by (with_reducible repeat (first | apply Kd.N_alloc | apply Kd.N_drewN | apply Kd.N_drew)); exact HO_4.out) hb); have n1_ := Aside0.mk (Kd.R_below (by (with_reducible repeat (first | apply Kd.R_alloc | apply Kd.R_drewN | apply Kd.R_drew)); exact HO_5.out) hb); have n2_ := Aside0.mk (Kd.R_below (by (with_reducible repeat (first | apply Kd.R_alloc | apply Kd.R_drewN | apply Kd.R_drew)); exact HO_7.out) hb); have n3_ := Aside0.mk (Kd.N_below (by (with_reducible repeat (first | apply Kd.N_alloc | apply Kd.N_drewN | apply Kd.N_drew)); exact HO275.out) hb); have n4_ := Aside0.mk (below_step (by repeat (first | (with_reducible first | exact HB.out | apply below_alloc | apply pw_below_drewN | apply below_drew1) | exact HB.out)) hb); clear HO_4; clear HO_5; clear HO_7; clear HO275; clear HB; have HO_4 := n0_; have HO_5 := n1_; have HO_7 := n2_; have HO275 := n3_; have HB := n4_; clear n0_ n1_ n2_ n3_ n4_; (try clear hb); (try clear hb2); (try clear hk); (try clear hi)))
     go_meet
     case rel => exact ⟨_, (!t276), (by first | rfl | (simp; done) | (simp [*]; done)), H', ⟨by have := HK1.out; have := HJ18.out; have := HK3.out; have := HK4.out; first | omega | exact Nat.le_refl _⟩, ⟨by (with_reducible repeat (first | apply Kd.N_alloc | apply Kd.N_drewN | apply Kd.N_drew)); exact Kd.N_mono HO_4.out (fun _ hk => ⟨hk.1.1, hk.2⟩)⟩, ⟨by (with_reducible repeat (first | apply Kd.R_alloc | apply Kd.R_drewN | apply Kd.R_drew)); exact Kd.R_mono HO_5.out (fun _ hk => trivial)⟩, ⟨by (with_reducible repeat (first | apply Kd.N_alloc | apply Kd.N_drewN | apply Kd.N_drew)); exact Kd.N_mono HO275.out (fun _ hk => ⟨hk.1, hk.2.1⟩)⟩, ⟨by repeat (first | (with_reducible first | exact HB.out | apply below_alloc | apply pw_below_drewN | apply below_drew1) | exact HB.out)⟩⟩
   case rest =>
    as_aux_lemma =>
     clear HC165
     (try clear c1); (try clear c2); (try clear p2); (try clear p6); (try clear c12); (try clear c13); (try clear c14); (try clear c15); (try clear c16); (try clear c25); (try clear p64); (try clear c124); (try clear c124b0); (try clear c125); (try clear c126); (try clear c127); (try clear c134); (try clear c143); (try clear c152); (try clear c167); (try clear c168); (try clear c168b0); (try clear c168b1); (try clear c168b2)
     obtain ⟨kq, x318_164, rfl, HA, HJ164, HO_4, HO_5, HO_19, HB⟩ := hcut
     cases kq with
     | zero => exact absurd HA.out (by simp [laws_FnShelves.j4])
     | succ kj164 =>
      have H := HA.out
      clear HA
      simp only [laws_FnShelves.j4] at H
      by_cases c173 : x318_164 = true
      ·subst c173
       have H1 : (some false) = some r := by rw [if_pos rfl] at H; exact H
       exact (laws_FnShelves.no_false HT H1).elim
      replace c173 := Bool.eq_false_iff.mpr c173
      subst c173
      have H1 : (laws_FnShelves.l3 kj164 t211 t212 t215 t220 t272 (t272.length : Int) 0) = some r := by rw [if_neg (show ¬ (false = true) by decide)] at H; exact H
      clear H
      have H := H1
      clear H1
      have H' := Aside0.mk H
      clear H
      obtain ⟨Ao174, co174, eo174⟩ := Kd.N_slice HO_19.out
      subst eo174
      go_wp2
      go_loopg [321] kj164 (fun kq v321 w' => ∃ (x321_6 : Int), v321 = .int .i64 x321_6 ∧ Aside0 (laws_FnShelves.l3 kq t211 t212 t215 t220 t272 (t272.length : Int) x321_6 = some r) ∧ Aside0 (kq ≤ kj164) ∧ Aside0 (Kd.N (Kd.slice 3 (Kd.int .i64)) 27 w' w.heap.size (fun k_ => some k_ ≠ (v217 : Value).ownBlock ∧ some k_ ≠ ((.slice Ao174 t272.length co174) : Value).ownBlock) (.slice Ao9 t212.length co9) t212) ∧ Aside0 (Kd.R k44 44 w' w.heap.size (fun _ => True) v217 t215) ∧ Aside0 (Kd.N (Kd.slice 3 (Kd.int .i64)) 27 w' w.heap.size (fun k_ => some k_ ≠ ((.slice Ao9 t212.length co9) : Value).ownBlock ∧ some k_ ≠ (v217 : Value).ownBlock) (.slice Ao174 t272.length co174) t272) ∧ Aside0 (Below w.heap.size w w'))
      case atStart => exact ⟨(0), (by first | rfl | (simp; done) | (simp [*]; done)), H', ⟨Nat.le_refl _⟩, ⟨by (with_reducible repeat (first | apply Kd.N_alloc | apply Kd.N_drewN | apply Kd.N_drew)); exact HO_4.out⟩, ⟨by (with_reducible repeat (first | apply Kd.R_alloc | apply Kd.R_drewN | apply Kd.R_drew)); exact HO_5.out⟩, ⟨by (with_reducible repeat (first | apply Kd.N_alloc | apply Kd.N_drewN | apply Kd.N_drew)); exact HO_19.out⟩, ⟨by repeat (first | (with_reducible first | exact HB.out | apply below_alloc | apply pw_below_drewN | apply below_drew1) | exact HB.out)⟩⟩
      case round =>
       rename_i ia1_ ia2_ ia3_ ia4_ ia5_ ia6_ ia7_ ia8_ ia9_ ia10_ ia11_ ia12_ ia13_ ia14_ ia15_ ia16_ ia17_ ia18_ ia19_ ia20_ ia21_ ia22_ ia23_ ia24_ ia25_ ia26_ ia27_ ia28_ ia29_ ia30_ ia31_ ia32_ ia33_ ia34_ ia35_ ia36_ ia37_ ia38_ ia39_ ia40_ ia41_ ia42_ ia43_ ia44_ ia45_ ia46_ ia47_ ia48_ ia49_ ia50_ ia51_ ia52_ ia53_ ia54_ ia55_ ia56_ ia57_ ia58_ ia59_ ia60_ ia61_ ia62_ ia63_ ia64_ ia65_ ia66_ ia67_ ia68_ ia69_ ia70_ ia71_ ia72_ ia73_ ia74_ ia75_ ia76_ ia77_ ia78_ ia79_ ia80_ ia81_ ia82_ ia83_ ia84_ ia85_ ia86_ ia87_ ia88_ ia89_ ia90_ ia91_ ia92_ ia93_ ia94_ ia95_ ia96_ ia97_ ia98_ ia99_ ia100_ ia101_ ia102_ ia103_ ia104_ ia105_ ia106_ ia107_ ia108_ ia109_ ia110_ ia111_ ia112_ ia113_ ia114_ ia115_ ia116_ ia117_ ia118_ ia119_ ia120_ ia121_ ia122_ ia123_ ia124_ ia125_ ia126_ ia127_ ia128_ ia129_ ia130_ ia131_ ia132_ ia133_ ia134_ ia135_ ia136_ ia137_ ia138_ ia139_ ia140_ ia141_ ia142_ ia143_ ia144_ ia145_ ia146_ ia147_ ia148_ ia149_ ia150_ ia151_ ia152_ ia153_ ia154_ ia155_ ia156_ ia157_ ia158_ ia159_ ia160_ ia161_ ia162_ ia163_ ia164_ ia165_ ia166_ ia167_ ia168_ ia169_ ia170_ ia171_ ia172_ ia173_ ia174_ ia175_ ia176_ ia177_ ia178_ ia179_ ia180_ ia181_ ia182_ ia183_ ia184_ ia185_ ia186_ ia187_ ia188_ ia189_ ia190_ ia191_ ia192_ ia193_ ia194_ ia195_ ia196_ ia197_ ia198_ ia199_ ia200_ ia201_ ia202_ ia203_ ia204_ ia205_ ia206_ ia207_ ia208_ ia209_ ia210_ ia211_ ia212_ ia213_ ia214_ ia215_ ia216_ ia217_ ia218_ ia219_ ia220_ ia221_ ia222_ ia223_ ia224_ ia225_ ia226_ ia227_ ia228_ ia229_ ia230_ ia231_ ia232_ ia233_ ia234_ ia235_ ia236_ ia237_ ia238_ ia239_ ia240_ ia241_ ia242_ ia243_ ia244_ ia245_ ia246_ ia247_ ia248_ ia249_ ia250_ ia251_ ia252_ ia253_ ia254_ ia255_ ia256_ ia257_ ia258_ ia259_ ia260_ ia261_ ia262_ ia263_ ia264_ ia265_ ia266_ ia267_ ia268_ ia269_ ia270_ ia271_ ia272_ ia273_ ia274_ ia275_ ia276_ ia277_ ia278_ ia279_ ia280_ ia281_ ia282_ ia283_ ia284_ ia285_ ia286_ ia287_ ia288_ ia289_ ia290_ ia291_ ia292_ ia293_ ia294_ ia295_ ia296_ ia297_ ia298_ ia299_ ia300_ ia301_ ia302_ ia303_ ia304_ ia305_ ia306_ ia307_ ia308_ ia309_ ia310_ ia311_ ia312_ ia313_ ia314_ ia315_ ia316_ ia317_ ia318_ ia319_ ia320_ ia321_ ia322_ ia323_ ia324_ ia325_ ia326_ ia327_ ia328_ ia329_ ia330_ ia331_ ia332_ ia333_ ia334_ ia335_ ia336_ ia337_ ia338_ ia339_ ia340_ ia341_ ia342_ ia343_ ia344_ ia345_ ia346_ ia347_ ia348_ ia349_ ia350_ ia351_ ia352_ ia353_ ia354_ ia355_ ia356_ ia357_ ia358_ ia359_ ia360_ ia361_ ia362_ ia363_ ia364_ ia365_ ia366_ ia367_ ia368_ ia369_ ia370_ ia371_ ia372_ ia373_ ia374_ ia375_ ia376_ ia377_ ia378_ ia379_ ia380_ ia381_ ia382_ ia383_ ia384_ ia385_ ia386_ ia387_ ia388_ ia389_ ia390_ ia391_ ia392_ ia393_ ia394_ ia395_ ia396_ ia397_ ia398_ ia399_ ia400_ ia401_ ia402_ ia403_ ia404_ ia405_ ia406_ ia407_ ia408_ ia409_ ia410_ ia411_ ia412_ ia413_ ia414_ ia415_ ia416_ ia417_ ia418_ ia419_ ia420_ ia421_ ia422_ ia423_ ia424_ ia425_ ia426_ ia427_ ia428_ ia429_ ia430_ ia431_ ia432_ ia433_ ia434_ ia435_ ia436_ ia437_ ia438_ ia439_ ia440_ ia441_ ia442_ ia443_ ia444_ ia445_ ia446_ ia447_ ia448_ ia449_ ia450_ ia451_ ia452_ ia453_ ia454_ ia455_ ia456_ ia457_ ia458_ ia459_ ia460_ ia461_ ia462_ ia463_ ia464_ ia465_ ia466_ ia467_ ia468_ ia469_ ia470_ ia471_ ia472_ ia473_ ia474_ ia475_ ia476_ ia477_ ia478_ ia479_ ia480_ ia481_ ia482_ ia483_ ia484_ ia485_ ia486_ ia487_ ia488_ ia489_ ia490_ ia491_ ia492_ ia493_ ia494_ ia495_ ia496_ ia497_ ia498_ ia499_ ia500_ ia501_ ia502_ ia503_ ia504_ ia505_ ia506_ ia507_ ia508_ ia509_ ia510_ ia511_ ia512_ ia513_ ia514_ ia515_ ia516_ ia517_ ia518_ ia519_ ia520_ ia521_ ia522_ ia523_ ia524_ ia525_ ia526_ ia527_ ia528_ ia529_ ia530_ ia531_ ia532_ ia533_ ia534_ ia535_ ia536_ ia537_ ia538_ ia539_ ia540_ ia541_ ia542_ ia543_ ia544_ ia545_ ia546_ ia547_ ia548_ ia549_ ia550_ ia551_ ia552_ ia553_ ia554_ ia555_ ia556_ ia557_ ia558_ ia559_ ia560_ ia561_ ia562_ ia563_ ia564_ ia565_ ia566_ ia567_ ia568_ ia569_ ia570_ ia571_ ia572_ ia573_ ia574_ ia575_ ia576_ ia577_ ia578_ ia579_ ia580_ ia581_ ia582_ ia583_ ia584_ ia585_ ia586_ ia587_ ia588_ ia589_ ia590_ ia591_ ia592_ ia593_ ia594_ ia595_ ia596_ ia597_ ia598_ ia599_ ia600_ ia601_ ia602_ ia603_ ia604_ ia605_ ia606_ ia607_ ia608_ ia609_ ia610_ ia611_ ia612_ ia613_ ia614_ ia615_ ia616_ ia617_ ia618_ ia619_ ia620_ ia621_ ia622_ ia623_ ia624_ ia625_ ia626_ ia627_ ia628_ ia629_ ia630_ ia631_ ia632_ ia633_
       revert k A0 c0 l0 r w HT hu44 HR0 HC0 t211 t212 A3 t215 t216 A4 t219 t220 A5 t223 A6 t226 A7 ia1_ w8 Ao9 co9 w10 v217 w11 v221 w12 w13 HO218 HO222 ia2_ ia3_ ia4_ u13 ia5_ ia6_ ia7_ ia8_ ia9_ ia10_ ia11_ ia12_ ia13_ ia14_ ia15_ x11_1 x50_1 ia16_ ia17_ ia18_ k1 ia19_ HK1 ia20_ ia21_ ia22_ ia23_ ia24_ ia25_ ia26_ ia27_ ia28_ ia29_ ia30_ ia31_ ia32_ ia33_ ia34_ ia35_ ia36_ ia37_ ia38_ ia39_ ia40_ ia41_ ia42_ ia43_ ia44_ ia45_ ia46_ ia47_ ia48_ ia49_ ia50_ ia51_ ia52_ ia53_ ia54_ ia55_ ia56_ ia57_ ia58_ ia59_ ia60_ ia61_ ia62_ ia63_ ia64_ ia65_ ia66_ ia67_ ia68_ ia69_ ia70_ ia71_ ia72_ ia73_ ia74_ ia75_ ia76_ ia77_ ia78_ ia79_ ia80_ ia81_ ia82_ ia83_ ia84_ ia85_ ia86_ ia87_ ia88_ ia89_ ia90_ ia91_ ia92_ ia93_ ia94_ ia95_ ia96_ ia97_ ia98_ ia99_ ia100_ ia101_ ia102_ ia103_ ia104_ ia105_ ia106_ ia107_ ia108_ ia109_ ia110_ ia111_ ia112_ ia113_ ia114_ ia115_ ia116_ ia117_ ia118_ ia119_ ia120_ ia121_ ia122_ ia123_ ia124_ ia125_ ia126_ ia127_ ia128_ ia129_ ia130_ ia131_ ia132_ ia133_ ia134_ ia135_ ia136_ ia137_ ia138_ ia139_ ia140_ ia141_ ia142_ ia143_ ia144_ ia145_ ia146_ ia147_ ia148_ ia149_ ia150_ ia151_ ia152_ ia153_ ia154_ ia155_ ia156_ ia157_ ia158_ ia159_ ia160_ ia161_ ia162_ ia163_ ia164_ ia165_ ia166_ ia167_ ia168_ ia169_ ia170_ ia171_ ia172_ ia173_ ia174_ ia175_ ia176_ ia177_ ia178_ ia179_ ia180_ ia181_ ia182_ ia183_ ia184_ ia185_ ia186_ ia187_ ia188_ ia189_ ia190_ ia191_ ia192_ ia193_ ia194_ ia195_ ia196_ ia197_ ia198_ ia199_ ia200_ ia201_ ia202_ ia203_ ia204_ ia205_ ia206_ ia207_ ia208_ ia209_ ia210_ ia211_ ia212_ ia213_ ia214_ ia215_ ia216_ ia217_ ia218_ ia219_ ia220_ ia221_ ia222_ ia223_ ia224_ ia225_ ia226_ ia227_ ia228_ ia229_ ia230_ ia231_ ia232_ ia233_ ia234_ ia235_ ia236_ ia237_ ia238_ ia239_ ia240_ ia241_ ia242_ ia243_ ia244_ ia245_ ia246_ ia247_ ia248_ ia249_ ia250_ ia251_ ia252_ ia253_ ia254_ ia255_ ia256_ ia257_ ia258_ ia259_ ia260_ ia261_ ia262_ ia263_ ia264_ ia265_ ia266_ ia267_ ia268_ ia269_ ia270_ ia271_ ia272_ ia273_ ia274_ ia275_ ia276_ ia277_ ia278_ ia279_ ia280_ ia281_ ia282_ ia283_ ia284_ ia285_ ia286_ ia287_ ia288_ ia289_ ia290_ ia291_ ia292_ ia293_ ia294_ ia295_ ia296_ ia297_ ia298_ ia299_ ia300_ ia301_ ia302_ ia303_ ia304_ ia305_ ia306_ ia307_ u318 ia308_ ia309_ ia310_ ia311_ ia312_ ia313_ ia314_ ia315_ ia316_ ia317_ ia318_ ia319_ ia320_ ia321_ ia322_ ia323_ ia324_ ia325_ ia326_ ia327_ ia328_ ia329_ ia330_ ia331_ ia332_ ia333_ ia334_ ia335_ ia336_ ia337_ ia338_ ia339_ ia340_ ia341_ ia342_ ia343_ ia344_ ia345_ ia346_ ia347_ ia348_ ia349_ ia350_ ia351_ ia352_ ia353_ ia354_ ia355_ ia356_ ia357_ ia358_ ia359_ ia360_ ia361_ ia362_ ia363_ ia364_ ia365_ ia366_ ia367_ ia368_ ia369_ ia370_ ia371_ ia372_ ia373_ ia374_ ia375_ ia376_ ia377_ ia378_ ia379_ ia380_ ia381_ ia382_ ia383_ ia384_ ia385_ ia386_ ia387_ kj18 HJ18 y234 Ny234 v235 w81 ia388_ ia389_ ia390_ Ao83 co83 HO214 HO225 ia391_ ia392_ ia393_ ia394_ ia395_ HO236 ia396_ ia397_ ia398_ u14 u15 u16 ia399_ ia400_ ia401_ ia402_ ia403_ ia404_ ia405_ ia406_ ia407_ ia408_ ia409_ ia410_ ia411_ ia412_ ia413_ ia414_ ia415_ ia416_ ia417_ ia418_ ia419_ ia420_ ia421_ ia422_ ia423_ ia424_ ia425_ ia426_ ia427_ ia428_ ia429_ ia430_ ia431_ ia432_ ia433_ ia434_ ia435_ ia436_ ia437_ ia438_ ia439_ ia440_ ia441_ ia442_ ia443_ ia444_ ia445_ ia446_ ia447_ ia448_ ia449_ ia450_ ia451_ ia452_ ia453_ ia454_ ia455_ ia456_ ia457_ ia458_ ia459_ ia460_ ia461_ ia462_ ia463_ ia464_ ia465_ ia466_ ia467_ ia468_ ia469_ ia470_ ia471_ ia472_ ia473_ ia474_ x14_3 x134_3 ia475_ ia476_ ia477_ HO_9 HO_14 ia478_ k3 ia479_ HK3 ia480_ ia481_ ia482_ ia483_ ia484_ u17 u18 ia485_ ia486_ ia487_ ia488_ ia489_ ia490_ ia491_ ia492_ ia493_ ia494_ ia495_ ia496_ ia497_ ia498_ ia499_ ia500_ ia501_ ia502_ ia503_ ia504_ ia505_ ia506_ ia507_ ia508_ ia509_ ia510_ ia511_ ia512_ ia513_ ia514_ ia515_ ia516_ ia517_ ia518_ ia519_ ia520_ ia521_ ia522_ ia523_ ia524_ ia525_ ia526_ ia527_ ia528_ ia529_ ia530_ ia531_ ia532_ ia533_ ia534_ ia535_ ia536_ ia537_ ia538_ ia539_ ia540_ ia541_ ia542_ ia543_ ia544_ ia545_ ia546_ ia547_ ia548_ ia549_ ia550_ ia551_ ia552_ ia553_ ia554_ ia555_ ia556_ ia557_ ia558_ ia559_ ia560_ ia561_ ia562_ ia563_ ia564_ ia565_ ia566_ ia567_ ia568_ ia569_ ia570_ ia571_ ia572_ ia573_ ia574_ x210_4 k4 ia575_ HK4 t272 t273 A164 ia576_ ia577_ w166 ia578_ HO_7 ia579_ wc u23 u24 u25 u26 u27 u28 u29 u30 u31 u32 u33 u34 u35 u36 u37 u38 u39 u40 u41 u42 u43 u44 u45 u46 u47 u51 u52 u53 u54 u55 u56 u57 u58 u59 u60 u61 u62 u63 u64 u65 u66 u67 u68 u69 u70 u71 u72 u73 u74 u75 u76 u77 u78 u79 u80 u81 u82 u83 u84 u85 u86 u87 u88 u89 u90 u91 u92 u93 u94 u95 u96 u97 u98 u99 u100 u101 u102 u103 u104 u105 u106 u107 u108 u109 u110 u111 u112 u113 u114 u115 u116 u117 u118 u119 u120 u121 u122 u123 u124 u125 u126 u127 u128 u129 u130 u131 u135 u136 u137 u138 u139 u140 u141 u142 u143 u144 u145 u146 u147 u148 u149 u150 u151 u152 u153 u154 u155 u156 u157 u158 u159 u160 u161 u162 u163 u164 u165 u166 u167 u168 u169 u170 u171 u172 u173 u174 u175 u176 u177 u178 u179 u180 u181 u182 u183 u184 u185 u186 u187 u188 u189 u190 u191 u192 u193 u194 u195 u196 u197 u198 u199 u200 u201 u202 u203 u204 u205 u206 u207 u211 u212 u213 u214 u215 u216 u217 u218 u219 u220 u221 u222 u223 u224 u225 u226 u227 u228 u229 u230 u231 u232 u233 u234 u235 u236 u237 u238 u239 u240 u241 u242 u243 u244 u245 u246 u247 u248 u249 u250 u251 u252 u253 u254 u255 u256 u257 u258 u259 u260 u261 u262 u263 u264 u265 u266 u267 u268 u269 u270 u271 u272 u273 u274 u275 u276 u277 u278 u279 u280 u281 u282 u283 u284 u285 u286 u287 u288 u289 u290 u291 u292 u293 u294 u295 u296 u297 u298 u299 u300 u301 u302 u303 u304 u305 u306 u307 u308 u309 u310 u311 u312 u313 u314 u315 u316 u317 ia580_ ia581_ ia582_ ia583_ ia584_ ia585_ ia586_ ia587_ ia588_ ia589_ ia590_ ia591_ ia592_ ia593_ ia594_ ia595_ ia596_ ia597_ ia598_ ia599_ ia600_ ia601_ ia602_ ia603_ ia604_ ia605_ ia606_ ia607_ ia608_ ia609_ ia610_ ia611_ ia612_ ia613_ ia614_ ia615_ ia616_ ia617_ ia618_ ia619_ ia620_ ia621_ ia622_ ia623_ ia624_ ia625_ ia626_ u369 u370 u371 u372 u373 u374 u375 u376 u377 u378 u379 u380 u381 u382 u383 u384 u385 u386 u387 u388 u389 u390 u391 u392 u393 u394 u395 u396 u397 u398 u399 u400 u401 HO_5 HB kj164 HJ164 H' Ao174 co174 ia627_ HO275 HO_4 HO_19 ia628_ ia629_ gk wr u2 u21 u22 u321 u322 u323 u324 u325 u326 u327 u328 u329 u330 u331 u332 u333 u334 u335 u336 u337 u338 u339 u340 u341 u342 u343 u344 u345 u346 u347 u348 u349 u350 u351 u352 u353 u354 u355 u356 u357 u358 u359 u360 u361 u362 u363 u364 u365 u366 u367 u368 hrel ia630_ ia631_ ia632_ ia633_
       exact hP1260_.out

end Go.Proofs.Ytadloeklhjoohaa.XFnShelves
