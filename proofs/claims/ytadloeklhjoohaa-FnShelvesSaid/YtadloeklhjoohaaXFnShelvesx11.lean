/- What functions of the program compute, as plain Lean functions, and that Go's calls come to just that: written by wip/tools/xprint.py for the law FnShelves. -/
import Derived.Test.YtadloeklhjoohaaXFnShelvesx0
import Derived.Test.YtadloeklhjoohaaXFnShelvesx1
import Derived.Test.YtadloeklhjoohaaXFnShelvesx3
import Derived.Test.YtadloeklhjoohaaXFnShelvesx4
import Derived.Test.YtadloeklhjoohaaXFnShelvesx5
import Derived.Test.YtadloeklhjoohaaXFnShelvesx6
import Derived.Test.YtadloeklhjoohaaXFnShelvesx7
import Derived.Test.YtadloeklhjoohaaXFnShelvesx8
import Derived.Test.YtadloeklhjoohaaXFnShelvesx9
import Derived.Test.YtadloeklhjoohaaXFnShelvesx10
namespace Go.Proofs.Ytadloeklhjoohaa.XFnShelves
open Go.RowKit Go.Proofs.YtadloeklhjoohaaW.PrintWords Go.Proofs.YtadloeklhjoohaaW.PrintLast Go.Proofs.YtadloeklhjoohaaW.PrintMore
attribute [local go_sem] max2_int min2_int max_two min_two max_three min_three max_four min_four   -- for this text's walks alone
set_option linter.unusedVariables false
set_option linter.unusedSimpArgs false

/-! ### laws_FnShelves: function 4 -/
set_option maxHeartbeats 8000000 in
set_option maxRecDepth 100000 in
noncomputable def laws_FnShelves.calls.part4 : PSigma fun P1890_ : Prop => Hole P1890_ → (laws_FnShelves.calls.part3.1) := by
 refine' ⟨_, fun hP1890_ => ?_⟩
 rotate_left 1
 intro k A0 c0 l0 r w HT hu44 HR0 HC0 t211 t212 A3 t215 t216 A4 t219 t220 A5 t223 A6 t226 A7 _ w8 Ao9 co9 w10 v217 w11 v221 w12 w13 HO218 HO222 _ _ _ u13 _ _ _ _ _ _ _ _ _ _ _ x11_1 x50_1 _ _ _ k1 _ HK1 _ _ _ _ _ _ _ _ _ _ _ _ _ _ _ _ _ _ _ _ _ _ _ _ _ _ _ _ _ _ _ _ _ _ _ _ _ _ _ _ _ _ _ _ _ _ _ _ _ _ _ _ _ _ _ _ _ _ _ _ _ _ _ _ _ _ _ _ _ _ _ _ _ _ _ _ _ _ _ _ _ _ _ _ _ _ _ _ _ _ _ _ _ _ _ _ _ _ _ _ _ _ _ _ _ _ _ _ _ _ _ _ _ _ _ _ _ _ _ _ _ _ _ _ _ _ _ _ _ _ _ _ _ _ _ _ _ _ _ _ _ _ _ _ _ _ _ _ _ _ _ _ _ _ _ _ _ _ _ _ _ _ _ _ _ _ _ _ _ _ _ _ _ _ _ _ _ _ _ _ _ _ _ _ _ _ _ _ _ _ _ _ _ _ _ _ _ _ _ _ _ _ _ _ _ _ _ _ _ _ _ _ _ _ _ _ _ _ _ _ _ _ _ _ _ _ _ _ _ _ _ _ _ _ _ _ _ _ _ _ _ _ _ _ _ _ _ _ _ _ _ _ _ _ _ _ _ _ _ _ _ _ _ _ _ _ _ _ _ _ _ _ _ _ _ _ _ _ _ _ _ _ _ _ _ _ _ _ u318 _ _ _ _ _ _ _ _ _ _ _ _ _ _ _ _ _ _ _ _ _ _ _ _ _ _ _ _ _ _ _ _ _ _ _ _ _ _ _ _ _ _ _ _ _ _ _ _ _ _ _ _ _ _ _ _ _ _ _ _ _ _ _ _ _ _ _ _ _ _ _ _ _ _ _ _ _ _ _ _ kj18 HJ18 y234 Ny234 v235 w81 _ _ _ Ao83 co83 HO214 HO225 _ _ _ _ _ HO236 _ _ _ u14 u15 u16 _ _ _ _ _ _ _ _ _ _ _ _ _ _ _ _ _ _ _ _ _ _ _ _ _ _ _ _ _ _ _ _ _ _ _ _ _ _ _ _ _ _ _ _ _ _ _ _ _ _ _ _ _ _ _ _ _ _ _ _ _ _ _ _ _ _ _ _ _ _ _ _ _ _ _ _ x14_3 x134_3 _ _ _ HO_9 HO_14 _ k3 _ HK3 _ _ _ _ _ u17 u18 _ _ _ _ _ _ _ _ _ _ _ _ _ _ _ _ _ _ _ _ _ _ _ _ _ _ _ _ _ _ _ _ _ _ _ _ _ _ _ _ _ _ _ _ _ _ _ _ _ _ _ _ _ _ _ _ _ _ _ _ _ _ _ _ _ _ _ _ _ _ _ _ _ _ _ _ _ _ _ _ _ _ _ _ _ _ _ _ _ _ x210_4 k4 _ HK4 t272 t273 A164 _ _ w166 _ HO_7 _ wc u23 u24 u25 u26 u27 u28 u29 u30 u31 u32 u33 u34 u35 u36 u37 u38 u39 u40 u41 u42 u43 u44 u45 u46 u47 u51 u52 u53 u54 u55 u56 u57 u58 u59 u60 u61 u62 u63 u64 u65 u66 u67 u68 u69 u70 u71 u72 u73 u74 u75 u76 u77 u78 u79 u80 u81 u82 u83 u84 u85 u86 u87 u88 u89 u90 u91 u92 u93 u94 u95 u96 u97 u98 u99 u100 u101 u102 u103 u104 u105 u106 u107 u108 u109 u110 u111 u112 u113 u114 u115 u116 u117 u118 u119 u120 u121 u122 u123 u124 u125 u126 u127 u128 u129 u130 u131 u135 u136 u137 u138 u139 u140 u141 u142 u143 u144 u145 u146 u147 u148 u149 u150 u151 u152 u153 u154 u155 u156 u157 u158 u159 u160 u161 u162 u163 u164 u165 u166 u167 u168 u169 u170 u171 u172 u173 u174 u175 u176 u177 u178 u179 u180 u181 u182 u183 u184 u185 u186 u187 u188 u189 u190 u191 u192 u193 u194 u195 u196 u197 u198 u199 u200 u201 u202 u203 u204 u205 u206 u207 u211 u212 u213 u214 u215 u216 u217 u218 u219 u220 u221 u222 u223 u224 u225 u226 u227 u228 u229 u230 u231 u232 u233 u234 u235 u236 u237 u238 u239 u240 u241 u242 u243 u244 u245 u246 u247 u248 u249 u250 u251 u252 u253 u254 u255 u256 u257 u258 u259 u260 u261 u262 u263 u264 u265 u266 u267 u268 u269 u270 u271 u272 u273 u274 u275 u276 u277 u278 u279 u280 u281 u282 u283 u284 u285 u286 u287 u288 u289 u290 u291 u292 u293 u294 u295 u296 u297 u298 u299 u300 u301 u302 u303 u304 u305 u306 u307 u308 u309 u310 u311 u312 u313 u314 u315 u316 u317 _ _ _ _ _ _ _ _ _ _ _ _ _ _ _ _ _ _ _ _ _ _ _ _ _ _ _ _ _ _ _ _ _ _ _ _ _ _ _ _ _ _ _ _ _ _ _ u369 u370 u371 u372 u373 u374 u375 u376 u377 u378 u379 u380 u381 u382 u383 u384 u385 u386 u387 u388 u389 u390 u391 u392 u393 u394 u395 u396 u397 u398 u399 u400 u401 HO_5 HB kj164 HJ164 H' Ao174 co174 _ HO275 HO_4 HO_19 _ _ gk wr u2 u21 u22 u321 u322 u323 u324 u325 u326 u327 u328 u329 u330 u331 u332 u333 u334 u335 u336 u337 u338 u339 u340 u341 u342 u343 u344 u345 u346 u347 u348 u349 u350 u351 u352 u353 u354 u355 u356 u357 u358 u359 u360 u361 u362 u363 u364 u365 u366 u367 u368 hrel _ _ _ _
 clear H'
 (try clear c1); (try clear c2); (try clear p2); (try clear p6); (try clear c12); (try clear c13); (try clear c14); (try clear c15); (try clear c16); (try clear c17); (try clear c25); (try clear p64); (try clear c124); (try clear c124b0); (try clear c125); (try clear c126); (try clear c127); (try clear c134); (try clear c143); (try clear c152); (try clear c167); (try clear c168); (try clear c168b0); (try clear c168b1); (try clear c168b2); (try clear c173); (try clear p2); (try clear p6); (try clear p64)
 obtain ⟨x321_6, rfl, HA, HK6, HO_4, HO_5, HO_19, HB⟩ := hrel
 cases gk with
 | zero => exact absurd HA.out (by simp [laws_FnShelves.l3])
 | succ k6 =>
  have H := HA.out
  clear HA
  simp only [laws_FnShelves.l3] at H
  by_cases c175 : x321_6 < (t272.length : Int)
  ·rw [if_pos c175] at H
   have c175b0 : decide (x321_6 < (t272.length : Int)) = true := decide_eq_true c175
   clear c175
   by_cases c176 : 0 ≤ x321_6
   rotate_left
   ·rw [if_neg c176] at H
    exact absurd H (by simp)
   rw [if_pos c176] at H
   have c176b0 : decide (0 ≤ x321_6) = true := decide_eq_true c176
   clear c176
   by_cases c177 : x321_6 < (t272.length : Int)
   rotate_left
   ·rw [if_neg c177] at H
    exact absurd H (by simp)
   rw [if_pos c177] at H
   have c177b0 : decide (x321_6 < (t272.length : Int)) = true := decide_eq_true c177
   clear c177
   by_cases c178 : ((rd_L3 t272 x321_6).length : Int) = 2
   rotate_left
   ·rw [if_neg c178] at H
    exact (laws_FnShelves.no_false HT H).elim
   rw [if_pos c178] at H
   have c178b0 : (((rd_L3 t272 x321_6).length : Int) == 2) = true := beq_iff_eq.mpr c178
   have c178b1 : (((rd_L3 t272 x321_6).length : Int) != 2) = false := bne_eq_false_iff_eq.mpr c178
   clear c178
   by_cases c179 : 0 < ((rd_L3 t272 x321_6).length : Int)
   rotate_left
   ·rw [if_neg c179] at H
    exact absurd H (by simp)
   rw [if_pos c179] at H
   have c179b0 : decide (0 < ((rd_L3 t272 x321_6).length : Int)) = true := decide_eq_true c179
   have c179b1 : decide (0 < (rd_L3 t272 x321_6).length) = true := decide_eq_true (by omega)
   clear c179
   by_cases c180 : 1 < ((rd_L3 t272 x321_6).length : Int)
   rotate_left
   ·rw [if_neg c180] at H
    exact absurd H (by simp)
   rw [if_pos c180] at H
   have c180b0 : decide (1 < ((rd_L3 t272 x321_6).length : Int)) = true := decide_eq_true c180
   have c180b1 : decide (1 < (rd_L3 t272 x321_6).length) = true := decide_eq_true (by omega)
   clear c180
   by_cases c181 : x321_6 < (t212.length : Int)
   rotate_left
   ·rw [if_neg c181] at H
    exact absurd H (by simp)
   rw [if_pos c181] at H
   have c181b0 : decide (x321_6 < (t212.length : Int)) = true := decide_eq_true c181
   clear c181
   by_cases c182 : 0 < ((rd_L3 t212 x321_6).length : Int)
   rotate_left
   ·rw [if_neg c182] at H
    exact absurd H (by simp)
   rw [if_pos c182] at H
   have c182b0 : decide (0 < ((rd_L3 t212 x321_6).length : Int)) = true := decide_eq_true c182
   have c182b1 : decide (0 < (rd_L3 t212 x321_6).length) = true := decide_eq_true (by omega)
   clear c182
   by_cases c183 : 1 < ((rd_L3 t212 x321_6).length : Int)
   rotate_left
   ·rw [if_neg c183] at H
    exact absurd H (by simp)
   rw [if_pos c183] at H
   have c183b0 : decide (1 < ((rd_L3 t212 x321_6).length : Int)) = true := decide_eq_true c183
   have c183b1 : decide (1 < (rd_L3 t212 x321_6).length) = true := decide_eq_true (by omega)
   clear c183
   by_cases c184 : (wrap64 ((rd (rd_L3 t272 x321_6) 0) * (rd (rd_L3 t272 x321_6) 1))) = (wrap64 ((rd (rd_L3 t212 x321_6) 0) * (rd (rd_L3 t212 x321_6) 1)))
   rotate_left
   ·rw [if_neg c184] at H
    exact (laws_FnShelves.no_false HT H).elim
   rw [if_pos c184] at H
   have c184b0 : ((wrap64 ((rd (rd_L3 t272 x321_6) 0) * (rd (rd_L3 t272 x321_6) 1))) == (wrap64 ((rd (rd_L3 t212 x321_6) 0) * (rd (rd_L3 t212 x321_6) 1)))) = true := beq_iff_eq.mpr c184
   have c184b1 : ((wrap64 ((rd (rd_L3 t272 x321_6) 0) * (rd (rd_L3 t272 x321_6) 1))) != (wrap64 ((rd (rd_L3 t212 x321_6) 0) * (rd (rd_L3 t212 x321_6) 1)))) = false := bne_eq_false_iff_eq.mpr c184
   clear c184
   by_cases c185 : (rd (rd_L3 t272 x321_6) 1) > (rd (rd_L3 t272 x321_6) 0)
   ·rw [if_pos c185] at H
    have c185b0 : decide ((rd (rd_L3 t272 x321_6) 0) < (rd (rd_L3 t272 x321_6) 1)) = true := decide_eq_true c185
    clear c185
    by_cases c186 : (rd (rd_L3 t272 x321_6) 1) ≤ t211
    ·rw [if_pos c186] at H
     exact (laws_FnShelves.no_false HT H).elim
    rw [if_neg c186] at H
    have c186b0 : decide ((rd (rd_L3 t272 x321_6) 1) ≤ t211) = false := decide_eq_false c186
    clear c186
    have H' := Aside0.mk H
    clear H
    have p277 : 0 ≤ (x321_6 : Int) := of_decide_eq_true (by first | (with_reducible assumption) | assumption)
    have q277 : x321_6 < (t272.length : Int) := of_decide_eq_true (by first | (with_reducible assumption) | assumption)
    obtain ⟨ad277, A277_0, c277_0, e277, hx277_0, hl277_0, hi277_0⟩ := at_L3 (Kd.N_reads' HO_19.out).2.2 x321_6 p277 q277
    cases e277
    obtain ⟨ce277, hce277, hMe277, hcc277⟩ := Kd.N_get HO_19.out [] x321_6 p277 (by first | exact q277 | exact of_decide_eq_true (by first | (with_reducible assumption) | assumption) | (have e_ := (Kd.N_reads' HO_19.out).1; omega))
    obtain ⟨ua277_0, uc277_0, rfl, ul277_0, ge277_0⟩ := Kd.FK_slice_open hMe277
    have hv277_0 := hcc277 0 _ rfl
    rw [Nat.add_zero, show ((Kd.slice 3 (Kd.int .i64))).sz = 1 from rfl, Nat.mul_one] at hv277_0
    replace hv277_0 := Option.some.inj (hv277_0.symm.trans hx277_0)
    injection hv277_0 with hva_ hvn_ hvc_
    rw [hva_] at ge277_0
    rw [hvc_] at ul277_0
    have HL277_0 := Aside0.mk (show Kd.V (Kd.int .i64) 3 _ w.heap.size _ _ (rd_L3 t272 x321_6) from Kd.V_mk ul277_0 ge277_0)
    clear hva_ hvn_ hvc_ ge277_0 ul277_0
    clear hcc277 hce277
    have HR277_0 := Aside0.mk hi277_0
    have HC277_0 := Aside0.mk hl277_0
    clear hi277_0 hl277_0
    replace p277 := eq_true p277
    replace q277 := eq_true q277
    try go_wp2
    have n0_ := Aside0.mk (Kd.N_drew HO_4.out)
    have n1_ := Aside0.mk (Kd.R_drew HO_5.out)
    have n2_ := Aside0.mk (Kd.N_drew HO_19.out)
    have n3_ := Aside0.mk (Kd.V_drew HL277_0.out)
    have n4_ := Aside0.mk (Kd.C_drew HR277_0.out)
    have n5_ := Aside0.mk (below_drew1 HB.out)
    clear HO_4
    clear HO_5
    clear HO_19
    clear HL277_0
    clear HR277_0
    clear HB
    have HO_4 := n0_
    have HO_5 := n1_
    have HO_19 := n2_
    have HL277_0 := n3_
    have HR277_0 := n4_
    have HB := n5_
    clear n0_ n1_ n2_ n3_ n4_ n5_
    have p278 : 0 ≤ (0 : Int) := (by omega)
    have q278 : 0 < ((rd_L3 t272 x321_6).length : Int) := of_decide_eq_true (by first | (with_reducible assumption) | assumption)
    obtain ⟨ad278, e278, hx278_0⟩ := Kd.at_int (by repeat (first | (with_reducible exact HR277_0.out) | (with_reducible refine Kd.C_alloc ?_ _) | (with_reducible refine Kd.C_drewN ?_ _) | (with_reducible refine Kd.C_drew ?_) | exact HR277_0.out)) 0 p278 q278
    cases e278
    have qi278 : (0 < (rd_L3 t272 x321_6).length) = True := eq_true (by omega)
    (try rw [show ((0 : Int)).toNat = 0 from rfl] at hx278_0)
    (try rw [Addr.add_zero'] at hx278_0)
    replace p278 := eq_true p278
    replace q278 := eq_true q278
    have p279 : 0 ≤ (1 : Int) := (by omega)
    have q279 : 1 < ((rd_L3 t272 x321_6).length : Int) := of_decide_eq_true (by first | (with_reducible assumption) | assumption)
    obtain ⟨ad279, e279, hx279_0⟩ := Kd.at_int (by repeat (first | (with_reducible exact HR277_0.out) | (with_reducible refine Kd.C_alloc ?_ _) | (with_reducible refine Kd.C_drewN ?_ _) | (with_reducible refine Kd.C_drew ?_) | exact HR277_0.out)) 1 p279 q279
    obtain rfl : ad278 = ad279 := (by injection e279)
    (try simp only [show (1 : Int).toNat = 1 from rfl, Nat.reduceMul, Nat.reduceEqDiff, Go.Addr.add, ↓reduceIte] at hx279_0)
    have qi279 : (1 < (rd_L3 t272 x321_6).length) = True := eq_true (by omega)
    (try rw [show ((1 : Int)).toNat = 1 from rfl] at hx279_0)
    replace p279 := eq_true p279
    replace q279 := eq_true q279
    have p280 : 0 ≤ (x321_6 : Int) := of_decide_eq_true (by first | (with_reducible assumption) | assumption)
    have q280 : x321_6 < (t212.length : Int) := of_decide_eq_true (by first | (with_reducible assumption) | assumption)
    obtain ⟨ad280, A280_0, c280_0, e280, hx280_0, hl280_0, hi280_0⟩ := at_L3 (Kd.N_reads' HO_4.out).2.2 x321_6 p280 q280
    cases e280
    obtain ⟨ce280, hce280, hMe280, hcc280⟩ := Kd.N_get HO_4.out [] x321_6 p280 (by first | exact q280 | exact of_decide_eq_true (by first | (with_reducible assumption) | assumption) | (have e_ := (Kd.N_reads' HO_4.out).1; omega))
    obtain ⟨ua280_0, uc280_0, rfl, ul280_0, ge280_0⟩ := Kd.FK_slice_open hMe280
    have hv280_0 := hcc280 0 _ rfl
    rw [Nat.add_zero, show ((Kd.slice 3 (Kd.int .i64))).sz = 1 from rfl, Nat.mul_one] at hv280_0
    replace hv280_0 := Option.some.inj (hv280_0.symm.trans hx280_0)
    injection hv280_0 with hva_ hvn_ hvc_
    rw [hva_] at ge280_0
    rw [hvc_] at ul280_0
    have HL280_0 := Aside0.mk (show Kd.V (Kd.int .i64) 3 _ w.heap.size _ _ (rd_L3 t212 x321_6) from Kd.V_mk ul280_0 ge280_0)
    clear hva_ hvn_ hvc_ ge280_0 ul280_0
    clear hcc280 hce280
    have HR280_0 := Aside0.mk hi280_0
    have HC280_0 := Aside0.mk hl280_0
    clear hi280_0 hl280_0
    replace p280 := eq_true p280
    replace q280 := eq_true q280
    have p281 : 0 ≤ (0 : Int) := (by omega)
    have q281 : 0 < ((rd_L3 t212 x321_6).length : Int) := of_decide_eq_true (by first | (with_reducible assumption) | assumption)
    obtain ⟨ad281, e281, hx281_0⟩ := Kd.at_int (by repeat (first | (with_reducible exact HR280_0.out) | (with_reducible refine Kd.C_alloc ?_ _) | (with_reducible refine Kd.C_drewN ?_ _) | (with_reducible refine Kd.C_drew ?_) | exact HR280_0.out)) 0 p281 q281
    cases e281
    have qi281 : (0 < (rd_L3 t212 x321_6).length) = True := eq_true (by omega)
    (try rw [show ((0 : Int)).toNat = 0 from rfl] at hx281_0)
    (try rw [Addr.add_zero'] at hx281_0)
    replace p281 := eq_true p281
    replace q281 := eq_true q281
    have p282 : 0 ≤ (x321_6 : Int) := of_decide_eq_true (by first | (with_reducible assumption) | assumption)
    have q282 : x321_6 < (t212.length : Int) := of_decide_eq_true (by first | (with_reducible assumption) | assumption)
    obtain ⟨ad282, A282_0, c282_0, e282, hx282_0, hl282_0, hi282_0⟩ := at_L3 (Kd.N_reads' HO_4.out).2.2 x321_6 p282 q282
    obtain rfl : ad280 = ad282 := (by injection e282)
    obtain ⟨ce282, hce282, hMe282, hcc282⟩ := Kd.N_get HO_4.out [] x321_6 p282 (by first | exact q282 | exact of_decide_eq_true (by first | (with_reducible assumption) | assumption) | (have e_ := (Kd.N_reads' HO_4.out).1; omega))
    obtain ⟨ua282_0, uc282_0, rfl, ul282_0, ge282_0⟩ := Kd.FK_slice_open hMe282
    have hv282_0 := hcc282 0 _ rfl
    rw [Nat.add_zero, show ((Kd.slice 3 (Kd.int .i64))).sz = 1 from rfl, Nat.mul_one] at hv282_0
    replace hv282_0 := Option.some.inj (hv282_0.symm.trans hx282_0)
    injection hv282_0 with hva_ hvn_ hvc_
    rw [hva_] at ge282_0
    rw [hvc_] at ul282_0
    have HL282_0 := Aside0.mk (show Kd.V (Kd.int .i64) 3 _ w.heap.size _ _ (rd_L3 t212 x321_6) from Kd.V_mk ul282_0 ge282_0)
    clear hva_ hvn_ hvc_ ge282_0 ul282_0
    clear hcc282 hce282
    have HR282_0 := Aside0.mk hi282_0
    have HC282_0 := Aside0.mk hl282_0
    clear hi282_0 hl282_0
    replace p282 := eq_true p282
    replace q282 := eq_true q282
    have ea_ := Option.some.inj (hx280_0.symm.trans hx282_0)
    injection ea_ with ea_ en_ ec_
    subst ea_
    subst ec_
    clear en_
    have p283 : 0 ≤ (1 : Int) := (by omega)
    have q283 : 1 < ((rd_L3 t212 x321_6).length : Int) := of_decide_eq_true (by first | (with_reducible assumption) | assumption)
    obtain ⟨ad283, e283, hx283_0⟩ := Kd.at_int (by repeat (first | (with_reducible exact HR282_0.out) | (with_reducible refine Kd.C_alloc ?_ _) | (with_reducible refine Kd.C_drewN ?_ _) | (with_reducible refine Kd.C_drew ?_) | exact HR282_0.out)) 1 p283 q283
    cases e283
    (try simp only [show (1 : Int).toNat = 1 from rfl, Nat.reduceMul, Nat.reduceEqDiff, Go.Addr.add, ↓reduceIte] at hx283_0)
    have qi283 : (1 < (rd_L3 t212 x321_6).length) = True := eq_true (by omega)
    (try rw [show ((1 : Int)).toNat = 1 from rfl] at hx283_0)
    replace p283 := eq_true p283
    replace q283 := eq_true q283
    have p284 : 0 ≤ (1 : Int) := (by omega)
    have q284 : 1 < ((rd_L3 t272 x321_6).length : Int) := of_decide_eq_true (by first | (with_reducible assumption) | assumption)
    obtain ⟨ad284, e284, hx284_0⟩ := Kd.at_int (by repeat (first | (with_reducible exact HR277_0.out) | (with_reducible refine Kd.C_alloc ?_ _) | (with_reducible refine Kd.C_drewN ?_ _) | (with_reducible refine Kd.C_drew ?_) | exact HR277_0.out)) 1 p284 q284
    obtain rfl : ad278 = ad284 := (by injection e284)
    (try simp only [show (1 : Int).toNat = 1 from rfl, Nat.reduceMul, Nat.reduceEqDiff, Go.Addr.add, ↓reduceIte] at hx284_0)
    have qi284 : (1 < (rd_L3 t272 x321_6).length) = True := eq_true (by omega)
    (try rw [show ((1 : Int)).toNat = 1 from rfl] at hx284_0)
    replace p284 := eq_true p284
    replace q284 := eq_true q284
    have p285 : 0 ≤ (0 : Int) := (by omega)
    have q285 : 0 < ((rd_L3 t272 x321_6).length : Int) := of_decide_eq_true (by first | (with_reducible assumption) | assumption)
    obtain ⟨ad285, e285, hx285_0⟩ := Kd.at_int (by repeat (first | (with_reducible exact HR277_0.out) | (with_reducible refine Kd.C_alloc ?_ _) | (with_reducible refine Kd.C_drewN ?_ _) | (with_reducible refine Kd.C_drew ?_) | exact HR277_0.out)) 0 p285 q285
    obtain rfl : ad278 = ad285 := (by injection e285)
    have qi285 : (0 < (rd_L3 t272 x321_6).length) = True := eq_true (by omega)
    (try rw [show ((0 : Int)).toNat = 0 from rfl] at hx285_0)
    (try rw [Addr.add_zero'] at hx285_0)
    replace p285 := eq_true p285
    replace q285 := eq_true q285
    have p286 : 0 ≤ (1 : Int) := (by omega)
    have q286 : 1 < ((rd_L3 t272 x321_6).length : Int) := of_decide_eq_true (by first | (with_reducible assumption) | assumption)
    obtain ⟨ad286, e286, hx286_0⟩ := Kd.at_int (by repeat (first | (with_reducible exact HR277_0.out) | (with_reducible refine Kd.C_alloc ?_ _) | (with_reducible refine Kd.C_drewN ?_ _) | (with_reducible refine Kd.C_drew ?_) | exact HR277_0.out)) 1 p286 q286
    obtain rfl : ad278 = ad286 := (by injection e286)
    (try simp only [show (1 : Int).toNat = 1 from rfl, Nat.reduceMul, Nat.reduceEqDiff, Go.Addr.add, ↓reduceIte] at hx286_0)
    have qi286 : (1 < (rd_L3 t272 x321_6).length) = True := eq_true (by omega)
    (try rw [show ((1 : Int)).toNat = 1 from rfl] at hx286_0)
    replace p286 := eq_true p286
    replace q286 := eq_true q286
    as_aux_lemma =>
     refine start_ (n := 42) (S := fun w' => w'.cell? ad278 = some (.int .i64 (rd (rd_L3 t272 x321_6) 0)) ∧ w'.cell? ⟨ad278.block, ad278.off + 1, none⟩ = some (.int .i64 (rd (rd_L3 t272 x321_6) 1)) ∧ w'.cell? (ad280.add (x321_6).toNat) = some (.slice (some ad281) (rd_L3 t212 x321_6).length c280_0) ∧ w'.cell? ad281 = some (.int .i64 (rd (rd_L3 t212 x321_6) 0)) ∧ w'.cell? (ad280.add (x321_6).toNat) = some (.slice (some ad281) (rd_L3 t212 x321_6).length c280_0) ∧ w'.cell? ⟨ad281.block, ad281.off + 1, none⟩ = some (.int .i64 (rd (rd_L3 t212 x321_6) 1)) ∧ w'.cell? ⟨ad278.block, ad278.off + 1, none⟩ = some (.int .i64 (rd (rd_L3 t272 x321_6) 1)) ∧ w'.cell? ad278 = some (.int .i64 (rd (rd_L3 t272 x321_6) 0)) ∧ w'.cell? ⟨ad278.block, ad278.off + 1, none⟩ = some (.int .i64 (rd (rd_L3 t272 x321_6) 1))) (ds := []) (qC_ 42 0) (by kernel_rfl) rfl rfl ⟨hx278_0, hx279_0, hx280_0, hx281_0, hx282_0, hx283_0, hx284_0, hx285_0, hx286_0⟩ (fun hHeld => ?_); refine with_tabW laws_FnShelves.tab36 laws_FnShelves.bits36 (fun HT_ HW_ => ?_)
     generalize wr.drew = w188 at HO_4 HO_5 HO_19 HL277_0 HR277_0 HB HL280_0 HL282_0 HR280_0 HR282_0 hx278_0 hx279_0 hx280_0 hx281_0 hx282_0 hx283_0 hx284_0 hx285_0 hx286_0 hHeld ⊢
     iterate 42 (first | (refine rz_ HT_ ?zy ?zp ?_ (v := ?_) (a' := ?_); (case zy => intro w'; go_simp; with_reducible rfl); (case zp => simp only [Act.put, List.setIfInBounds_toArray, List.set_cons_zero, List.set_cons_succ, i64_w, i32_w]; rfl)) | (refine rt_ HT_ HW_ hHeld ?zy ?zp ?_ (v := ?_) (a' := ?_); (case zy => rintro w' ⟨s0, s1, s2, s3, s4, s5, s6, s7, s8⟩; go_simp; with_reducible rfl); (case zp => simp only [Act.put, List.setIfInBounds_toArray, List.set_cons_zero, List.set_cons_succ, i64_w, i32_w]; rfl)))
     refine done_ (done_of HT_.out (by kernel_rfl)) ?_
     try go_wp2
     go_roundg k6
     case measure => have := HK1.out; have := HJ18.out; have := HK3.out; have := HK4.out; have := HJ164.out; have := HK6.out; omega
     case rel => exact ⟨(wrap64 (x321_6 + 1)), (by first | rfl | (simp; done) | (simp [*]; done)), H', ⟨by have := HK1.out; have := HJ18.out; have := HK3.out; have := HK4.out; have := HJ164.out; have := HK6.out; omega⟩, ⟨by (with_reducible repeat (first | apply Kd.N_alloc | apply Kd.N_drewN | apply Kd.N_drew)); exact HO_4.out⟩, ⟨by (with_reducible repeat (first | apply Kd.R_alloc | apply Kd.R_drewN | apply Kd.R_drew)); exact HO_5.out⟩, ⟨by (with_reducible repeat (first | apply Kd.N_alloc | apply Kd.N_drewN | apply Kd.N_drew)); exact HO_19.out⟩, ⟨by repeat (first | (with_reducible first | exact HB.out | apply below_alloc | apply pw_below_drewN | apply below_drew1) | exact HB.out)⟩⟩
   ·rw [if_neg c185] at H
    have c185b0 : decide ((rd (rd_L3 t272 x321_6) 0) < (rd (rd_L3 t272 x321_6) 1)) = false := decide_eq_false c185
    clear c185
    have H' := Aside0.mk H
    clear H
    have p277 : 0 ≤ (x321_6 : Int) := of_decide_eq_true (by first | (with_reducible assumption) | assumption)
    have q277 : x321_6 < (t272.length : Int) := of_decide_eq_true (by first | (with_reducible assumption) | assumption)
    obtain ⟨ad277, A277_0, c277_0, e277, hx277_0, hl277_0, hi277_0⟩ := at_L3 (Kd.N_reads' HO_19.out).2.2 x321_6 p277 q277
    cases e277
    obtain ⟨ce277, hce277, hMe277, hcc277⟩ := Kd.N_get HO_19.out [] x321_6 p277 (by first | exact q277 | exact of_decide_eq_true (by first | (with_reducible assumption) | assumption) | (have e_ := (Kd.N_reads' HO_19.out).1; omega))
    obtain ⟨ua277_0, uc277_0, rfl, ul277_0, ge277_0⟩ := Kd.FK_slice_open hMe277
    have hv277_0 := hcc277 0 _ rfl
    rw [Nat.add_zero, show ((Kd.slice 3 (Kd.int .i64))).sz = 1 from rfl, Nat.mul_one] at hv277_0
    replace hv277_0 := Option.some.inj (hv277_0.symm.trans hx277_0)
    injection hv277_0 with hva_ hvn_ hvc_
    rw [hva_] at ge277_0
    rw [hvc_] at ul277_0
    have HL277_0 := Aside0.mk (show Kd.V (Kd.int .i64) 3 _ w.heap.size _ _ (rd_L3 t272 x321_6) from Kd.V_mk ul277_0 ge277_0)
    clear hva_ hvn_ hvc_ ge277_0 ul277_0
    clear hcc277 hce277
    have HR277_0 := Aside0.mk hi277_0
    have HC277_0 := Aside0.mk hl277_0
    clear hi277_0 hl277_0
    replace p277 := eq_true p277
    replace q277 := eq_true q277
    try go_wp2
    have n0_ := Aside0.mk (Kd.N_drew HO_4.out)
    have n1_ := Aside0.mk (Kd.R_drew HO_5.out)
    have n2_ := Aside0.mk (Kd.N_drew HO_19.out)
    have n3_ := Aside0.mk (Kd.V_drew HL277_0.out)
    have n4_ := Aside0.mk (Kd.C_drew HR277_0.out)
    have n5_ := Aside0.mk (below_drew1 HB.out)
    clear HO_4
    clear HO_5
    clear HO_19
    clear HL277_0
    clear HR277_0
    clear HB
    have HO_4 := n0_
    have HO_5 := n1_
    have HO_19 := n2_
    have HL277_0 := n3_
    have HR277_0 := n4_
    have HB := n5_
    clear n0_ n1_ n2_ n3_ n4_ n5_
    have p278 : 0 ≤ (0 : Int) := (by omega)
    have q278 : 0 < ((rd_L3 t272 x321_6).length : Int) := of_decide_eq_true (by first | (with_reducible assumption) | assumption)
    obtain ⟨ad278, e278, hx278_0⟩ := Kd.at_int (by repeat (first | (with_reducible exact HR277_0.out) | (with_reducible refine Kd.C_alloc ?_ _) | (with_reducible refine Kd.C_drewN ?_ _) | (with_reducible refine Kd.C_drew ?_) | exact HR277_0.out)) 0 p278 q278
    cases e278
    have qi278 : (0 < (rd_L3 t272 x321_6).length) = True := eq_true (by omega)
    (try rw [show ((0 : Int)).toNat = 0 from rfl] at hx278_0)
    (try rw [Addr.add_zero'] at hx278_0)
    replace p278 := eq_true p278
    replace q278 := eq_true q278
    have p279 : 0 ≤ (1 : Int) := (by omega)
    have q279 : 1 < ((rd_L3 t272 x321_6).length : Int) := of_decide_eq_true (by first | (with_reducible assumption) | assumption)
    obtain ⟨ad279, e279, hx279_0⟩ := Kd.at_int (by repeat (first | (with_reducible exact HR277_0.out) | (with_reducible refine Kd.C_alloc ?_ _) | (with_reducible refine Kd.C_drewN ?_ _) | (with_reducible refine Kd.C_drew ?_) | exact HR277_0.out)) 1 p279 q279
    obtain rfl : ad278 = ad279 := (by injection e279)
    (try simp only [show (1 : Int).toNat = 1 from rfl, Nat.reduceMul, Nat.reduceEqDiff, Go.Addr.add, ↓reduceIte] at hx279_0)
    have qi279 : (1 < (rd_L3 t272 x321_6).length) = True := eq_true (by omega)
    (try rw [show ((1 : Int)).toNat = 1 from rfl] at hx279_0)
    replace p279 := eq_true p279
    replace q279 := eq_true q279
    have p280 : 0 ≤ (x321_6 : Int) := of_decide_eq_true (by first | (with_reducible assumption) | assumption)
    have q280 : x321_6 < (t212.length : Int) := of_decide_eq_true (by first | (with_reducible assumption) | assumption)
    obtain ⟨ad280, A280_0, c280_0, e280, hx280_0, hl280_0, hi280_0⟩ := at_L3 (Kd.N_reads' HO_4.out).2.2 x321_6 p280 q280
    cases e280
    obtain ⟨ce280, hce280, hMe280, hcc280⟩ := Kd.N_get HO_4.out [] x321_6 p280 (by first | exact q280 | exact of_decide_eq_true (by first | (with_reducible assumption) | assumption) | (have e_ := (Kd.N_reads' HO_4.out).1; omega))
    obtain ⟨ua280_0, uc280_0, rfl, ul280_0, ge280_0⟩ := Kd.FK_slice_open hMe280
    have hv280_0 := hcc280 0 _ rfl
    rw [Nat.add_zero, show ((Kd.slice 3 (Kd.int .i64))).sz = 1 from rfl, Nat.mul_one] at hv280_0
    replace hv280_0 := Option.some.inj (hv280_0.symm.trans hx280_0)
    injection hv280_0 with hva_ hvn_ hvc_
    rw [hva_] at ge280_0
    rw [hvc_] at ul280_0
    have HL280_0 := Aside0.mk (show Kd.V (Kd.int .i64) 3 _ w.heap.size _ _ (rd_L3 t212 x321_6) from Kd.V_mk ul280_0 ge280_0)
    clear hva_ hvn_ hvc_ ge280_0 ul280_0
    clear hcc280 hce280
    have HR280_0 := Aside0.mk hi280_0
    have HC280_0 := Aside0.mk hl280_0
    clear hi280_0 hl280_0
    replace p280 := eq_true p280
    replace q280 := eq_true q280
    have p281 : 0 ≤ (0 : Int) := (by omega)
    have q281 : 0 < ((rd_L3 t212 x321_6).length : Int) := of_decide_eq_true (by first | (with_reducible assumption) | assumption)
    obtain ⟨ad281, e281, hx281_0⟩ := Kd.at_int (by repeat (first | (with_reducible exact HR280_0.out) | (with_reducible refine Kd.C_alloc ?_ _) | (with_reducible refine Kd.C_drewN ?_ _) | (with_reducible refine Kd.C_drew ?_) | exact HR280_0.out)) 0 p281 q281
    cases e281
    have qi281 : (0 < (rd_L3 t212 x321_6).length) = True := eq_true (by omega)
    (try rw [show ((0 : Int)).toNat = 0 from rfl] at hx281_0)
    (try rw [Addr.add_zero'] at hx281_0)
    replace p281 := eq_true p281
    replace q281 := eq_true q281
    have p282 : 0 ≤ (x321_6 : Int) := of_decide_eq_true (by first | (with_reducible assumption) | assumption)
    have q282 : x321_6 < (t212.length : Int) := of_decide_eq_true (by first | (with_reducible assumption) | assumption)
    obtain ⟨ad282, A282_0, c282_0, e282, hx282_0, hl282_0, hi282_0⟩ := at_L3 (Kd.N_reads' HO_4.out).2.2 x321_6 p282 q282
    obtain rfl : ad280 = ad282 := (by injection e282)
    obtain ⟨ce282, hce282, hMe282, hcc282⟩ := Kd.N_get HO_4.out [] x321_6 p282 (by first | exact q282 | exact of_decide_eq_true (by first | (with_reducible assumption) | assumption) | (have e_ := (Kd.N_reads' HO_4.out).1; omega))
    obtain ⟨ua282_0, uc282_0, rfl, ul282_0, ge282_0⟩ := Kd.FK_slice_open hMe282
    have hv282_0 := hcc282 0 _ rfl
    rw [Nat.add_zero, show ((Kd.slice 3 (Kd.int .i64))).sz = 1 from rfl, Nat.mul_one] at hv282_0
    replace hv282_0 := Option.some.inj (hv282_0.symm.trans hx282_0)
    injection hv282_0 with hva_ hvn_ hvc_
    rw [hva_] at ge282_0
    rw [hvc_] at ul282_0
    have HL282_0 := Aside0.mk (show Kd.V (Kd.int .i64) 3 _ w.heap.size _ _ (rd_L3 t212 x321_6) from Kd.V_mk ul282_0 ge282_0)
    clear hva_ hvn_ hvc_ ge282_0 ul282_0
    clear hcc282 hce282
    have HR282_0 := Aside0.mk hi282_0
    have HC282_0 := Aside0.mk hl282_0
    clear hi282_0 hl282_0
    replace p282 := eq_true p282
    replace q282 := eq_true q282
    have ea_ := Option.some.inj (hx280_0.symm.trans hx282_0)
    injection ea_ with ea_ en_ ec_
    subst ea_
    subst ec_
    clear en_
    have p283 : 0 ≤ (1 : Int) := (by omega)
    have q283 : 1 < ((rd_L3 t212 x321_6).length : Int) := of_decide_eq_true (by first | (with_reducible assumption) | assumption)
    obtain ⟨ad283, e283, hx283_0⟩ := Kd.at_int (by repeat (first | (with_reducible exact HR282_0.out) | (with_reducible refine Kd.C_alloc ?_ _) | (with_reducible refine Kd.C_drewN ?_ _) | (with_reducible refine Kd.C_drew ?_) | exact HR282_0.out)) 1 p283 q283
    cases e283
    (try simp only [show (1 : Int).toNat = 1 from rfl, Nat.reduceMul, Nat.reduceEqDiff, Go.Addr.add, ↓reduceIte] at hx283_0)
    have qi283 : (1 < (rd_L3 t212 x321_6).length) = True := eq_true (by omega)
    (try rw [show ((1 : Int)).toNat = 1 from rfl] at hx283_0)
    replace p283 := eq_true p283
    replace q283 := eq_true q283
    have p284 : 0 ≤ (1 : Int) := (by omega)
    have q284 : 1 < ((rd_L3 t272 x321_6).length : Int) := of_decide_eq_true (by first | (with_reducible assumption) | assumption)
    obtain ⟨ad284, e284, hx284_0⟩ := Kd.at_int (by repeat (first | (with_reducible exact HR277_0.out) | (with_reducible refine Kd.C_alloc ?_ _) | (with_reducible refine Kd.C_drewN ?_ _) | (with_reducible refine Kd.C_drew ?_) | exact HR277_0.out)) 1 p284 q284
    obtain rfl : ad278 = ad284 := (by injection e284)
    (try simp only [show (1 : Int).toNat = 1 from rfl, Nat.reduceMul, Nat.reduceEqDiff, Go.Addr.add, ↓reduceIte] at hx284_0)
    have qi284 : (1 < (rd_L3 t272 x321_6).length) = True := eq_true (by omega)
    (try rw [show ((1 : Int)).toNat = 1 from rfl] at hx284_0)
    replace p284 := eq_true p284
    replace q284 := eq_true q284
    have p285 : 0 ≤ (0 : Int) := (by omega)
    have q285 : 0 < ((rd_L3 t272 x321_6).length : Int) := of_decide_eq_true (by first | (with_reducible assumption) | assumption)
    obtain ⟨ad285, e285, hx285_0⟩ := Kd.at_int (by repeat (first | (with_reducible exact HR277_0.out) | (with_reducible refine Kd.C_alloc ?_ _) | (with_reducible refine Kd.C_drewN ?_ _) | (with_reducible refine Kd.C_drew ?_) | exact HR277_0.out)) 0 p285 q285
    obtain rfl : ad278 = ad285 := (by injection e285)
    have qi285 : (0 < (rd_L3 t272 x321_6).length) = True := eq_true (by omega)
    (try rw [show ((0 : Int)).toNat = 0 from rfl] at hx285_0)
    (try rw [Addr.add_zero'] at hx285_0)
    replace p285 := eq_true p285
    replace q285 := eq_true q285
    as_aux_lemma =>
     refine start_ (n := 42) (S := fun w' => w'.cell? ad278 = some (.int .i64 (rd (rd_L3 t272 x321_6) 0)) ∧ w'.cell? ⟨ad278.block, ad278.off + 1, none⟩ = some (.int .i64 (rd (rd_L3 t272 x321_6) 1)) ∧ w'.cell? (ad280.add (x321_6).toNat) = some (.slice (some ad281) (rd_L3 t212 x321_6).length c280_0) ∧ w'.cell? ad281 = some (.int .i64 (rd (rd_L3 t212 x321_6) 0)) ∧ w'.cell? (ad280.add (x321_6).toNat) = some (.slice (some ad281) (rd_L3 t212 x321_6).length c280_0) ∧ w'.cell? ⟨ad281.block, ad281.off + 1, none⟩ = some (.int .i64 (rd (rd_L3 t212 x321_6) 1)) ∧ w'.cell? ⟨ad278.block, ad278.off + 1, none⟩ = some (.int .i64 (rd (rd_L3 t272 x321_6) 1)) ∧ w'.cell? ad278 = some (.int .i64 (rd (rd_L3 t272 x321_6) 0))) (ds := []) (qC_ 42 0) (by kernel_rfl) rfl rfl ⟨hx278_0, hx279_0, hx280_0, hx281_0, hx282_0, hx283_0, hx284_0, hx285_0⟩ (fun hHeld => ?_); refine with_tabW laws_FnShelves.tab36 laws_FnShelves.bits36 (fun HT_ HW_ => ?_)
     generalize wr.drew = w189 at HO_4 HO_5 HO_19 HL277_0 HR277_0 HB HL280_0 HL282_0 HR280_0 HR282_0 hx278_0 hx279_0 hx280_0 hx281_0 hx282_0 hx283_0 hx284_0 hx285_0 hHeld ⊢
     iterate 42 (first | (refine rz_ HT_ ?zy ?zp ?_ (v := ?_) (a' := ?_); (case zy => intro w'; go_simp; with_reducible rfl); (case zp => simp only [Act.put, List.setIfInBounds_toArray, List.set_cons_zero, List.set_cons_succ, i64_w, i32_w]; rfl)) | (refine ru_ HT_ ?zp ?_ (a' := ?_); (case zp => simp only [Act.put, List.setIfInBounds_toArray, List.set_cons_zero, List.set_cons_succ, i64_w, i32_w]; rfl)) | (refine rt_ HT_ HW_ hHeld ?zy ?zp ?_ (v := ?_) (a' := ?_); (case zy => rintro w' ⟨s0, s1, s2, s3, s4, s5, s6, s7⟩; go_simp; with_reducible rfl); (case zp => simp only [Act.put, List.setIfInBounds_toArray, List.set_cons_zero, List.set_cons_succ, i64_w, i32_w]; rfl)))
     refine done_ (done_of HT_.out (by kernel_rfl)) ?_
     try go_wp2
     go_roundg k6
     case measure => have := HK1.out; have := HJ18.out; have := HK3.out; have := HK4.out; have := HJ164.out; have := HK6.out; omega
     case rel => exact ⟨(wrap64 (x321_6 + 1)), (by first | rfl | (simp; done) | (simp [*]; done)), H', ⟨by have := HK1.out; have := HJ18.out; have := HK3.out; have := HK4.out; have := HJ164.out; have := HK6.out; omega⟩, ⟨by (with_reducible repeat (first | apply Kd.N_alloc | apply Kd.N_drewN | apply Kd.N_drew)); exact HO_4.out⟩, ⟨by (with_reducible repeat (first | apply Kd.R_alloc | apply Kd.R_drewN | apply Kd.R_drew)); exact HO_5.out⟩, ⟨by (with_reducible repeat (first | apply Kd.N_alloc | apply Kd.N_drewN | apply Kd.N_drew)); exact HO_19.out⟩, ⟨by repeat (first | (with_reducible first | exact HB.out | apply below_alloc | apply pw_below_drewN | apply below_drew1) | exact HB.out)⟩⟩
  ·rw [if_neg c175] at H
   have c175b0 : decide (x321_6 < (t272.length : Int)) = false := decide_eq_false c175
   clear c175
   replace H := Option.bind_eq_some_iff.mp H
   obtain ⟨t287, A1920, H⟩ := H
   replace H : ((laws_area.f k6 t212).bind fun t288 => (if t287 = (wrap64 ((wrap64 (t211 * t220)) - t288)) then (if (t212.length : Int) < 1 then (some true) else (if 0 < (t212.length : Int) then (if 0 < (t215.length : Int) then ((impl_DoOverlap.f k6 (([rd_L3 t212 0, rd_L3 t212 0] : List (List Int))) (([(⟨(rd_T44 t215 0).f0, (rd_T44 t215 0).f1⟩ : S44), (⟨(rd_T44 t215 0).f0, (rd_T44 t215 0).f1⟩ : S44)] : List (S44)))).bind fun t299 => (some t299)) else (none)) else (none))) else (some false))) = some r := H
   have A192 := Aside0.mk A1920
   clear A1920
   replace H := Option.bind_eq_some_iff.mp H
   obtain ⟨t288, A1930, H⟩ := H
   replace H : (if t287 = (wrap64 ((wrap64 (t211 * t220)) - t288)) then (if (t212.length : Int) < 1 then (some true) else (if 0 < (t212.length : Int) then (if 0 < (t215.length : Int) then ((impl_DoOverlap.f k6 (([rd_L3 t212 0, rd_L3 t212 0] : List (List Int))) (([(⟨(rd_T44 t215 0).f0, (rd_T44 t215 0).f1⟩ : S44), (⟨(rd_T44 t215 0).f0, (rd_T44 t215 0).f1⟩ : S44)] : List (S44)))).bind fun t299 => (some t299)) else (none)) else (none))) else (some false)) = some r := H
   have A193 := Aside0.mk A1930
   clear A1930
   by_cases c194 : t287 = (wrap64 ((wrap64 (t211 * t220)) - t288))
   ·rw [if_pos c194] at H
    have c194b0 : (t287 == (wrap64 ((wrap64 (t211 * t220)) - t288))) = true := beq_iff_eq.mpr c194
    have c194b1 : (t287 != (wrap64 ((wrap64 (t211 * t220)) - t288))) = false := bne_eq_false_iff_eq.mpr c194
    clear c194
    by_cases c195 : (t212.length : Int) < 1
    ·rw [if_pos c195] at H
     have c195b0 : decide ((t212.length : Int) < 1) = true := decide_eq_true c195
     have c195b1 : decide (t212.length < 1) = true := decide_eq_true (by omega)
     clear c195
     obtain rfl := Option.some.inj H
     try go_wp2
     have n0_ := Aside0.mk (Kd.N_drew HO_4.out)
     have n1_ := Aside0.mk (Kd.R_drew HO_5.out)
     have n2_ := Aside0.mk (Kd.N_drew HO_19.out)
     have n3_ := Aside0.mk (below_drew1 HB.out)
     clear HO_4
     clear HO_5
     clear HO_19
     clear HB
     have HO_4 := n0_
     have HO_5 := n1_
     have HO_19 := n2_
     have HB := n3_
     clear n0_ n1_ n2_ n3_
     as_aux_lemma =>
      refine start_ (n := 34) (S := fun w' => True) (ds := []) (qB_ 34 0) (by kernel_rfl) rfl rfl trivial (fun hHeld => ?_); refine with_tabW laws_FnShelves.tab39 laws_FnShelves.bits39 (fun HT_ HW_ => ?_)
      generalize wr.drew = w196 at HO_4 HO_5 HO_19 HB hHeld ⊢
      refine pz_ 0 369 (v := ?_) (a' := ?_) (qB_ 34 1) HT_ ?zy ?zp ?_; (case zy => intro w'; go_simp; with_reducible rfl); (case zp => simp only [Act.put, List.setIfInBounds_toArray, List.set_cons_zero, List.set_cons_succ, i64_w, i32_w]; rfl)
      refine pz_ 1 370 (v := ?_) (a' := ?_) (qB_ 34 3) HT_ ?zy ?zp ?_; (case zy => intro w'; go_simp; with_reducible rfl); (case zp => simp only [Act.put, List.setIfInBounds_toArray, List.set_cons_zero, List.set_cons_succ, i64_w, i32_w]; rfl)
      refine pz_ 2 371 (v := ?_) (a' := ?_) (qB_ 34 7) HT_ ?zy ?zp ?_; (case zy => intro w'; go_simp; with_reducible rfl); (case zp => simp only [Act.put, List.setIfInBounds_toArray, List.set_cons_zero, List.set_cons_succ, i64_w, i32_w]; rfl)
      refine pz_ 4 373 (v := ?_) (a' := ?_) (qB_ 34 23) HT_ ?zy ?zp ?_; (case zy => intro w'; go_simp; with_reducible rfl); (case zp => simp only [Act.put, List.setIfInBounds_toArray, List.set_cons_zero, List.set_cons_succ, i64_w, i32_w]; rfl)
      refine pz_ 5 374 (v := ?_) (a' := ?_) (qB_ 34 55) HT_ ?zy ?zp ?_; (case zy => intro w'; go_simp; with_reducible rfl); (case zp => simp only [Act.put, List.setIfInBounds_toArray, List.set_cons_zero, List.set_cons_succ, i64_w, i32_w]; rfl)
      refine pz_ 6 375 (v := ?_) (a' := ?_) (qB_ 34 119) HT_ ?zy ?zp ?_; (case zy => intro w'; go_simp; with_reducible rfl); (case zp => simp only [Act.put, List.setIfInBounds_toArray, List.set_cons_zero, List.set_cons_succ, i64_w, i32_w]; rfl)
      refine pz_ 7 376 (v := ?_) (a' := ?_) (qB_ 34 247) HT_ ?zy ?zp ?_; (case zy => intro w'; go_simp; with_reducible rfl); (case zp => simp only [Act.put, List.setIfInBounds_toArray, List.set_cons_zero, List.set_cons_succ, i64_w, i32_w]; rfl)
      refine one_ (i := 3) (N := some 372) (qB_ 34 255) rfl rfl (one_of HT_.out (by kernel_rfl)) (by decide) (fun K hK => ?_)
      refine goes_ Try.func26 (by kernel_rfl) rfl #[.int .i64 t211, .int .i64 t220, .slice Ao9 t212.length co9] (by rfl) rfl rfl (by (try simp only [List.map_toArray, List.map_cons, List.map_nil]); first | done | rfl | (simp only [List.length_drop, List.length_take]; rfl)) ?_
      with_reducible refine (impl_WasteOf.calls k6 t211 t220 _ _ t212 t287 _ ?side1 ?side2 A192.out).mono ?_
      (case side1 => repeat (first | exact (Kd.N_reads' HO_4.out).2.2 | (with_reducible refine Kd.C_alloc ?_ _) | (with_reducible refine Kd.C_drewN ?_ _) | (with_reducible refine Kd.C_drew ?_)))
      (case side2 => exact (Kd.N_reads' HO_4.out).2.1)
      rintro e w197 ⟨rfl, hb⟩
      refine ⟨_, rfl, ?_⟩
      have n0_ := Aside0.mk (Kd.N_below (by (with_reducible repeat (first | apply Kd.N_alloc | apply Kd.N_drewN | apply Kd.N_drew)); exact HO_4.out) hb)
      have n1_ := Aside0.mk (Kd.R_below (by (with_reducible repeat (first | apply Kd.R_alloc | apply Kd.R_drewN | apply Kd.R_drew)); exact HO_5.out) hb)
      have n2_ := Aside0.mk (Kd.N_below (by (with_reducible repeat (first | apply Kd.N_alloc | apply Kd.N_drewN | apply Kd.N_drew)); exact HO_19.out) hb)
      have n3_ := Aside0.mk (below_step (by repeat (first | (with_reducible first | exact HB.out | apply below_alloc | apply pw_below_drewN | apply below_drew1) | exact HB.out)) hb)
      clear HO_4
      clear HO_5
      clear HO_19
      clear HB
      have HO_4 := n0_
      have HO_5 := n1_
      have HO_19 := n2_
      have HB := n3_
      clear n0_ n1_ n2_ n3_
      (try clear hb)
      (try clear hb2)
      (try clear hk)
      (try clear hi)
      refine hK.out _ _ trivial (fun hHeld => ?_)
      clear hK K
      refine norm_ (a' := ?_) ?_ ?_
      rotate_left
      ·show Act.put _ (some 372) _ = _
       simp only [Act.put, List.setIfInBounds_toArray, List.set_cons_zero, List.set_cons_succ, i64_w, i32_w]
       rfl
      refine one_ (i := 8) (N := some 377) (qC_ 34 9) rfl rfl (one_of HT_.out (by kernel_rfl)) (by decide) (fun K hK => ?_)
      refine goes_ Try.func22 (by kernel_rfl) rfl #[.slice Ao9 t212.length co9] (by rfl) rfl rfl (by (try simp only [List.map_toArray, List.map_cons, List.map_nil]); first | done | rfl | (simp only [List.length_drop, List.length_take]; rfl)) ?_
      with_reducible refine (laws_area.calls k6 _ _ t212 t288 _ ?side1 ?side2 A193.out).mono ?_
      (case side1 => repeat (first | exact (Kd.N_reads' HO_4.out).2.2 | (with_reducible refine Kd.C_alloc ?_ _) | (with_reducible refine Kd.C_drewN ?_ _) | (with_reducible refine Kd.C_drew ?_)))
      (case side2 => exact (Kd.N_reads' HO_4.out).2.1)
      rintro e w' ⟨rfl, ⟨nd, rfl⟩⟩
      refine ⟨_, rfl, ?_⟩
      refine hK.out _ _ trivial (fun hHeld => ?_)
      clear hK K
      refine norm_ (a' := ?_) ?_ ?_
      rotate_left
      ·show Act.put _ (some 377) _ = _
       simp only [Act.put, List.setIfInBounds_toArray, List.set_cons_zero, List.set_cons_succ, i64_w, i32_w]
       rfl
      iterate 25 (first | (refine rz_ HT_ ?zy ?zp ?_ (v := ?_) (a' := ?_); (case zy => intro w'; go_simp; with_reducible rfl); (case zp => simp only [Act.put, List.setIfInBounds_toArray, List.set_cons_zero, List.set_cons_succ, i64_w, i32_w]; rfl)) | (refine ru_ HT_ ?zp ?_ (a' := ?_); (case zp => simp only [Act.put, List.setIfInBounds_toArray, List.set_cons_zero, List.set_cons_succ, i64_w, i32_w]; rfl)))
      refine done_ (done_of HT_.out (by kernel_rfl)) ?_
      try go_wp2
      go_ret
      exact ⟨by first | rfl | (simp [errW_none, errW_some] <;> rfl) | (simp [*, errW_none, errW_some] <;> rfl), by repeat (first | (with_reducible first | exact HB.out | apply below_alloc | apply pw_below_drewN | apply below_drew1) | exact HB.out)⟩
    ·rw [if_neg c195] at H
     have c195b0 : decide ((t212.length : Int) < 1) = false := decide_eq_false c195
     have c195b1 : decide (t212.length < 1) = false := decide_eq_false (by omega)
     clear c195
     by_cases c198 : 0 < (t212.length : Int)
     rotate_left
     ·rw [if_neg c198] at H
      exact absurd H (by simp)
     rw [if_pos c198] at H
     have c198b0 : decide (0 < (t212.length : Int)) = true := decide_eq_true c198
     have c198b1 : decide (0 < t212.length) = true := decide_eq_true (by omega)
     clear c198
     obtain ⟨y291, hy291⟩ : ∃ y_ : List (List Int), y_ = (([rd_L3 t212 0, rd_L3 t212 0] : List (List Int))) := ⟨_, rfl⟩
     replace H : (if 0 < (t215.length : Int) then ((impl_DoOverlap.f k6 y291 (([(⟨(rd_T44 t215 0).f0, (rd_T44 t215 0).f1⟩ : S44), (⟨(rd_T44 t215 0).f0, (rd_T44 t215 0).f1⟩ : S44)] : List (S44)))).bind fun t299 => (some t299)) else (none)) = some r := by first | (rw [hy291]; with_reducible exact H) | (have H2_ := (Option.bind_some _ _).symm.trans H; rw [hy291]; with_reducible exact H2_) | (have H2_ := (Option.bind_some _ _).symm.trans H; with_reducible exact H2_) | with_reducible exact H | (rw [hy291]; exact H) | exact H
     have Ny291 := Aside0.mk hy291
     clear hy291
     by_cases c199 : 0 < (t215.length : Int)
     rotate_left
     ·rw [if_neg c199] at H
      exact absurd H (by simp)
     rw [if_pos c199] at H
     have c199b0 : decide (0 < (t215.length : Int)) = true := decide_eq_true c199
     have c199b1 : decide (0 < t215.length) = true := decide_eq_true (by omega)
     clear c199
     obtain ⟨y296, hy296⟩ : ∃ y_ : List (S44), y_ = (([(⟨(rd_T44 t215 0).f0, (rd_T44 t215 0).f1⟩ : S44), (⟨(rd_T44 t215 0).f0, (rd_T44 t215 0).f1⟩ : S44)] : List (S44))) := ⟨_, rfl⟩
     replace H : ((impl_DoOverlap.f k6 y291 y296).bind fun t299 => (some t299)) = some r := by first | (rw [hy296]; with_reducible exact H) | (have H2_ := (Option.bind_some _ _).symm.trans H; rw [hy296]; with_reducible exact H2_) | (have H2_ := (Option.bind_some _ _).symm.trans H; with_reducible exact H2_) | with_reducible exact H | (rw [hy296]; exact H) | exact H
     have Ny296 := Aside0.mk hy296
     clear hy296
     replace H := Option.bind_eq_some_iff.mp H
     obtain ⟨t299, A2000, H⟩ := H
     replace H : (some t299) = some r := H
     have A200 := Aside0.mk A2000
     clear A2000
     obtain rfl := Option.some.inj H
     try go_wp2
     have n0_ := Aside0.mk (Kd.N_drew HO_4.out)
     have n1_ := Aside0.mk (Kd.R_drew HO_5.out)
     have n2_ := Aside0.mk (Kd.N_drew HO_19.out)
     have n3_ := Aside0.mk (below_drew1 HB.out)
     clear HO_4
     clear HO_5
     clear HO_19
     clear HB
     have HO_4 := n0_
     have HO_5 := n1_
     have HO_19 := n2_
     have HB := n3_
     clear n0_ n1_ n2_ n3_
     have p289 : 0 ≤ (0 : Int) := (by omega)
     have q289 : 0 < (t212.length : Int) := of_decide_eq_true (by first | (with_reducible assumption) | assumption)
     obtain ⟨ad289, A289_0, c289_0, e289, hx289_0, hl289_0, hi289_0⟩ := at_L3 (Kd.N_reads' HO_4.out).2.2 0 p289 q289
     cases e289
     obtain ⟨ce289, hce289, hMe289, hcc289⟩ := Kd.N_get HO_4.out [] 0 p289 (by first | exact q289 | exact of_decide_eq_true (by first | (with_reducible assumption) | assumption) | (have e_ := (Kd.N_reads' HO_4.out).1; omega))
     obtain ⟨ua289_0, uc289_0, rfl, ul289_0, ge289_0⟩ := Kd.FK_slice_open hMe289
     have hv289_0 := hcc289 0 _ rfl
     rw [Nat.add_zero, show ((Kd.slice 3 (Kd.int .i64))).sz = 1 from rfl, Nat.mul_one] at hv289_0
     replace hv289_0 := Option.some.inj (hv289_0.symm.trans hx289_0)
     injection hv289_0 with hva_ hvn_ hvc_
     rw [hva_] at ge289_0
     rw [hvc_] at ul289_0
     have HL289_0 := Aside0.mk (show Kd.V (Kd.int .i64) 3 _ w.heap.size _ _ (rd_L3 t212 0) from Kd.V_mk ul289_0 ge289_0)
     clear hva_ hvn_ hvc_ ge289_0 ul289_0
     clear hcc289 hce289
     have qi289 : (0 < t212.length) = True := eq_true (by omega)
     (try rw [show ((0 : Int)).toNat = 0 from rfl] at hx289_0)
     (try rw [Addr.add_zero'] at hx289_0)
     have HR289_0 := Aside0.mk hi289_0
     have HC289_0 := Aside0.mk hl289_0
     clear hi289_0 hl289_0
     replace p289 := eq_true p289
     replace q289 := eq_true q289
     have p290 : 0 ≤ (0 : Int) := (by omega)
     have q290 : 0 < (t212.length : Int) := of_decide_eq_true (by first | (with_reducible assumption) | assumption)
     obtain ⟨ad290, A290_0, c290_0, e290, hx290_0, hl290_0, hi290_0⟩ := at_L3 (Kd.N_reads' HO_4.out).2.2 0 p290 q290
     obtain rfl : ad289 = ad290 := (by injection e290)
     obtain ⟨ce290, hce290, hMe290, hcc290⟩ := Kd.N_get HO_4.out [] 0 p290 (by first | exact q290 | exact of_decide_eq_true (by first | (with_reducible assumption) | assumption) | (have e_ := (Kd.N_reads' HO_4.out).1; omega))
     obtain ⟨ua290_0, uc290_0, rfl, ul290_0, ge290_0⟩ := Kd.FK_slice_open hMe290
     have hv290_0 := hcc290 0 _ rfl
     rw [Nat.add_zero, show ((Kd.slice 3 (Kd.int .i64))).sz = 1 from rfl, Nat.mul_one] at hv290_0
     replace hv290_0 := Option.some.inj (hv290_0.symm.trans hx290_0)
     injection hv290_0 with hva_ hvn_ hvc_
     rw [hva_] at ge290_0
     rw [hvc_] at ul290_0
     have HL290_0 := Aside0.mk (show Kd.V (Kd.int .i64) 3 _ w.heap.size _ _ (rd_L3 t212 0) from Kd.V_mk ul290_0 ge290_0)
     clear hva_ hvn_ hvc_ ge290_0 ul290_0
     clear hcc290 hce290
     have qi290 : (0 < t212.length) = True := eq_true (by omega)
     (try rw [show ((0 : Int)).toNat = 0 from rfl] at hx290_0)
     (try rw [Addr.add_zero'] at hx290_0)
     have HR290_0 := Aside0.mk hi290_0
     have HC290_0 := Aside0.mk hl290_0
     clear hi290_0 hl290_0
     replace p290 := eq_true p290
     replace q290 := eq_true q290
     have ea_ := Option.some.inj (hx289_0.symm.trans hx290_0)
     injection ea_ with ea_ en_ ec_
     subst ea_
     subst ec_
     clear en_
     have p294 : 0 ≤ (0 : Int) := (by omega)
     have q294 : 0 < (t215.length : Int) := of_decide_eq_true (by first | (with_reducible assumption) | assumption)
     obtain ⟨Aq5_, cq5_, eq5_⟩ := Kd.R_slice HO_5.out
     subst eq5_
     obtain ⟨ad294, e294, hx294_0, hx294_1⟩ := at_T44 (Kd.R_reads' HO_5.out).2.2 0 p294 q294
     cases e294
     have qi294 : (0 < t215.length) = True := eq_true (by omega)
     (try rw [show ((0 : Int)).toNat = 0 from rfl] at hx294_0)
     (try rw [show 0 * 2 = 0 from rfl] at hx294_0)
     (try rw [Addr.add_zero'] at hx294_0)
     (try rw [show ((0 : Int)).toNat = 0 from rfl] at hx294_1)
     (try rw [show 0 * 2 = 0 from rfl] at hx294_1)
     (try rw [Addr.add_zero'] at hx294_1)
     replace p294 := eq_true p294
     replace q294 := eq_true q294
     have p295 : 0 ≤ (0 : Int) := (by omega)
     have q295 : 0 < (t215.length : Int) := of_decide_eq_true (by first | (with_reducible assumption) | assumption)
     obtain ⟨ad295, e295, hx295_0, hx295_1⟩ := at_T44 (Kd.R_reads' HO_5.out).2.2 0 p295 q295
     obtain rfl : ad294 = ad295 := (by injection e295)
     have qi295 : (0 < t215.length) = True := eq_true (by omega)
     (try rw [show ((0 : Int)).toNat = 0 from rfl] at hx295_0)
     (try rw [show 0 * 2 = 0 from rfl] at hx295_0)
     (try rw [Addr.add_zero'] at hx295_0)
     (try rw [show ((0 : Int)).toNat = 0 from rfl] at hx295_1)
     (try rw [show 0 * 2 = 0 from rfl] at hx295_1)
     (try rw [Addr.add_zero'] at hx295_1)
     replace p295 := eq_true p295
     replace q295 := eq_true q295
     rename_i ia1_ ia2_ ia3_ ia4_ ia5_ ia6_ ia7_ ia8_ ia9_ ia10_ ia11_ ia12_ ia13_ ia14_ ia15_ ia16_ ia17_ ia18_ ia19_ ia20_ ia21_ ia22_ ia23_ ia24_ ia25_ ia26_ ia27_ ia28_ ia29_ ia30_ ia31_ ia32_ ia33_ ia34_ ia35_ ia36_ ia37_ ia38_ ia39_ ia40_ ia41_ ia42_ ia43_ ia44_ ia45_ ia46_ ia47_ ia48_ ia49_ ia50_ ia51_ ia52_ ia53_ ia54_ ia55_ ia56_ ia57_ ia58_ ia59_ ia60_ ia61_ ia62_ ia63_ ia64_ ia65_ ia66_ ia67_ ia68_ ia69_ ia70_ ia71_ ia72_ ia73_ ia74_ ia75_ ia76_ ia77_ ia78_ ia79_ ia80_ ia81_ ia82_ ia83_ ia84_ ia85_ ia86_ ia87_ ia88_ ia89_ ia90_ ia91_ ia92_ ia93_ ia94_ ia95_ ia96_ ia97_ ia98_ ia99_ ia100_ ia101_ ia102_ ia103_ ia104_ ia105_ ia106_ ia107_ ia108_ ia109_ ia110_ ia111_ ia112_ ia113_ ia114_ ia115_ ia116_ ia117_ ia118_ ia119_ ia120_ ia121_ ia122_ ia123_ ia124_ ia125_ ia126_ ia127_ ia128_ ia129_ ia130_ ia131_ ia132_ ia133_ ia134_ ia135_ ia136_ ia137_ ia138_ ia139_ ia140_ ia141_ ia142_ ia143_ ia144_ ia145_ ia146_ ia147_ ia148_ ia149_ ia150_ ia151_ ia152_ ia153_ ia154_ ia155_ ia156_ ia157_ ia158_ ia159_ ia160_ ia161_ ia162_ ia163_ ia164_ ia165_ ia166_ ia167_ ia168_ ia169_ ia170_ ia171_ ia172_ ia173_ ia174_ ia175_ ia176_ ia177_ ia178_ ia179_ ia180_ ia181_ ia182_ ia183_ ia184_ ia185_ ia186_ ia187_ ia188_ ia189_ ia190_ ia191_ ia192_ ia193_ ia194_ ia195_ ia196_ ia197_ ia198_ ia199_ ia200_ ia201_ ia202_ ia203_ ia204_ ia205_ ia206_ ia207_ ia208_ ia209_ ia210_ ia211_ ia212_ ia213_ ia214_ ia215_ ia216_ ia217_ ia218_ ia219_ ia220_ ia221_ ia222_ ia223_ ia224_ ia225_ ia226_ ia227_ ia228_ ia229_ ia230_ ia231_ ia232_ ia233_ ia234_ ia235_ ia236_ ia237_ ia238_ ia239_ ia240_ ia241_ ia242_ ia243_ ia244_ ia245_ ia246_ ia247_ ia248_ ia249_ ia250_ ia251_ ia252_ ia253_ ia254_ ia255_ ia256_ ia257_ ia258_ ia259_ ia260_ ia261_ ia262_ ia263_ ia264_ ia265_ ia266_ ia267_ ia268_ ia269_ ia270_ ia271_ ia272_ ia273_ ia274_ ia275_ ia276_ ia277_ ia278_ ia279_ ia280_ ia281_ ia282_ ia283_ ia284_ ia285_ ia286_ ia287_ ia288_ ia289_ ia290_ ia291_ ia292_ ia293_ ia294_ ia295_ ia296_ ia297_ ia298_ ia299_ ia300_ ia301_ ia302_ ia303_ ia304_ ia305_ ia306_ ia307_ ia308_ ia309_ ia310_ ia311_ ia312_ ia313_ ia314_ ia315_ ia316_ ia317_ ia318_ ia319_ ia320_ ia321_ ia322_ ia323_ ia324_ ia325_ ia326_ ia327_ ia328_ ia329_ ia330_ ia331_ ia332_ ia333_ ia334_ ia335_ ia336_ ia337_ ia338_ ia339_ ia340_ ia341_ ia342_ ia343_ ia344_ ia345_ ia346_ ia347_ ia348_ ia349_ ia350_ ia351_ ia352_ ia353_ ia354_ ia355_ ia356_ ia357_ ia358_ ia359_ ia360_ ia361_ ia362_ ia363_ ia364_ ia365_ ia366_ ia367_ ia368_ ia369_ ia370_ ia371_ ia372_ ia373_ ia374_ ia375_ ia376_ ia377_ ia378_ ia379_ ia380_ ia381_ ia382_ ia383_ ia384_ ia385_ ia386_ ia387_ ia388_ ia389_ ia390_ ia391_ ia392_ ia393_ ia394_ ia395_ ia396_ ia397_ ia398_ ia399_ ia400_ ia401_ ia402_ ia403_ ia404_ ia405_ ia406_ ia407_ ia408_ ia409_ ia410_ ia411_ ia412_ ia413_ ia414_ ia415_ ia416_ ia417_ ia418_ ia419_ ia420_ ia421_ ia422_ ia423_ ia424_ ia425_ ia426_ ia427_ ia428_ ia429_ ia430_ ia431_ ia432_ ia433_ ia434_ ia435_ ia436_ ia437_ ia438_ ia439_ ia440_ ia441_ ia442_ ia443_ ia444_ ia445_ ia446_ ia447_ ia448_ ia449_ ia450_ ia451_ ia452_ ia453_ ia454_ ia455_ ia456_ ia457_ ia458_ ia459_ ia460_ ia461_ ia462_ ia463_ ia464_ ia465_ ia466_ ia467_ ia468_ ia469_ ia470_ ia471_ ia472_ ia473_ ia474_ ia475_ ia476_ ia477_ ia478_ ia479_ ia480_ ia481_ ia482_ ia483_ ia484_ ia485_ ia486_ ia487_ ia488_ ia489_ ia490_ ia491_ ia492_ ia493_ ia494_ ia495_ ia496_ ia497_ ia498_ ia499_ ia500_ ia501_ ia502_ ia503_ ia504_ ia505_ ia506_ ia507_ ia508_ ia509_ ia510_ ia511_ ia512_ ia513_ ia514_ ia515_ ia516_ ia517_ ia518_ ia519_ ia520_ ia521_ ia522_ ia523_ ia524_ ia525_ ia526_ ia527_ ia528_ ia529_ ia530_ ia531_ ia532_ ia533_ ia534_ ia535_ ia536_ ia537_ ia538_ ia539_ ia540_ ia541_ ia542_ ia543_ ia544_ ia545_ ia546_ ia547_ ia548_ ia549_ ia550_ ia551_ ia552_ ia553_ ia554_ ia555_ ia556_ ia557_ ia558_ ia559_ ia560_ ia561_ ia562_ ia563_ ia564_ ia565_ ia566_ ia567_ ia568_ ia569_ ia570_ ia571_ ia572_ ia573_ ia574_ ia575_ ia576_ ia577_ ia578_ ia579_ ia580_ ia581_ ia582_ ia583_ ia584_ ia585_ ia586_ ia587_ ia588_ ia589_ ia590_ ia591_ ia592_ ia593_ ia594_ ia595_ ia596_ ia597_ ia598_ ia599_ ia600_ ia601_ ia602_ ia603_ ia604_ ia605_ ia606_ ia607_ ia608_ ia609_ ia610_ ia611_ ia612_ ia613_ ia614_ ia615_ ia616_ ia617_ ia618_ ia619_ ia620_ ia621_ ia622_ ia623_ ia624_ ia625_ ia626_ ia627_ ia628_ ia629_ ia630_ ia631_ ia632_ ia633_ ia634_ ia635_ ia636_ ia637_ ia638_ ia639_ ia640_
     revert k A0 c0 l0 w hu44 HR0 HC0 t211 t212 A3 t215 t216 A4 t219 t220 A5 t223 A6 t226 A7 w8 co9 w10 w11 v221 w12 w13 ia1_ ia2_ ia3_ u13 ia4_ ia5_ ia6_ ia7_ ia8_ ia9_ ia10_ ia11_ ia12_ ia13_ ia14_ x11_1 x50_1 ia15_ k1 ia16_ HK1 ia17_ ia18_ ia19_ ia20_ ia21_ ia22_ ia23_ ia24_ ia25_ ia26_ ia27_ ia28_ ia29_ ia30_ ia31_ ia32_ ia33_ ia34_ ia35_ ia36_ ia37_ ia38_ ia39_ ia40_ ia41_ ia42_ ia43_ ia44_ ia45_ ia46_ ia47_ ia48_ ia49_ ia50_ ia51_ ia52_ ia53_ ia54_ ia55_ ia56_ ia57_ ia58_ ia59_ ia60_ ia61_ ia62_ ia63_ ia64_ ia65_ ia66_ ia67_ ia68_ ia69_ ia70_ ia71_ ia72_ ia73_ ia74_ ia75_ ia76_ ia77_ ia78_ ia79_ ia80_ ia81_ ia82_ ia83_ ia84_ ia85_ ia86_ ia87_ ia88_ ia89_ ia90_ ia91_ ia92_ ia93_ ia94_ ia95_ ia96_ ia97_ ia98_ ia99_ ia100_ ia101_ ia102_ ia103_ ia104_ ia105_ ia106_ ia107_ ia108_ ia109_ ia110_ ia111_ ia112_ ia113_ ia114_ ia115_ ia116_ ia117_ ia118_ ia119_ ia120_ ia121_ ia122_ ia123_ ia124_ ia125_ ia126_ ia127_ ia128_ ia129_ ia130_ ia131_ ia132_ ia133_ ia134_ ia135_ ia136_ ia137_ ia138_ ia139_ ia140_ ia141_ ia142_ ia143_ ia144_ ia145_ ia146_ ia147_ ia148_ ia149_ ia150_ ia151_ ia152_ ia153_ ia154_ ia155_ ia156_ ia157_ ia158_ ia159_ ia160_ ia161_ ia162_ ia163_ ia164_ ia165_ ia166_ ia167_ ia168_ ia169_ ia170_ ia171_ ia172_ ia173_ ia174_ ia175_ ia176_ ia177_ ia178_ ia179_ ia180_ ia181_ ia182_ ia183_ ia184_ ia185_ ia186_ ia187_ ia188_ ia189_ ia190_ ia191_ ia192_ ia193_ ia194_ ia195_ ia196_ ia197_ ia198_ ia199_ ia200_ ia201_ ia202_ ia203_ ia204_ ia205_ ia206_ ia207_ ia208_ ia209_ ia210_ ia211_ ia212_ ia213_ ia214_ ia215_ ia216_ ia217_ ia218_ ia219_ ia220_ ia221_ ia222_ ia223_ ia224_ ia225_ ia226_ ia227_ ia228_ ia229_ ia230_ ia231_ ia232_ ia233_ ia234_ ia235_ ia236_ ia237_ ia238_ ia239_ ia240_ ia241_ ia242_ ia243_ ia244_ ia245_ ia246_ ia247_ ia248_ ia249_ ia250_ ia251_ ia252_ ia253_ ia254_ ia255_ ia256_ ia257_ ia258_ ia259_ ia260_ ia261_ ia262_ ia263_ ia264_ ia265_ ia266_ ia267_ ia268_ ia269_ ia270_ ia271_ ia272_ ia273_ ia274_ ia275_ ia276_ ia277_ ia278_ ia279_ ia280_ ia281_ ia282_ ia283_ ia284_ ia285_ ia286_ ia287_ ia288_ ia289_ ia290_ ia291_ ia292_ ia293_ ia294_ ia295_ ia296_ ia297_ ia298_ ia299_ ia300_ ia301_ ia302_ ia303_ u318 ia304_ ia305_ ia306_ ia307_ ia308_ ia309_ ia310_ ia311_ ia312_ ia313_ ia314_ ia315_ ia316_ ia317_ ia318_ ia319_ ia320_ ia321_ ia322_ ia323_ ia324_ ia325_ ia326_ ia327_ ia328_ ia329_ ia330_ ia331_ ia332_ ia333_ ia334_ ia335_ ia336_ ia337_ ia338_ ia339_ ia340_ ia341_ ia342_ ia343_ ia344_ ia345_ ia346_ ia347_ ia348_ ia349_ ia350_ ia351_ ia352_ ia353_ ia354_ ia355_ ia356_ ia357_ ia358_ ia359_ ia360_ ia361_ ia362_ ia363_ ia364_ ia365_ ia366_ ia367_ ia368_ ia369_ ia370_ ia371_ ia372_ ia373_ ia374_ ia375_ ia376_ ia377_ ia378_ ia379_ ia380_ ia381_ ia382_ ia383_ kj18 HJ18 y234 Ny234 v235 w81 ia384_ Ao83 co83 HO225 ia385_ ia386_ HO236 ia387_ ia388_ ia389_ u14 u15 u16 ia390_ ia391_ ia392_ ia393_ ia394_ ia395_ ia396_ ia397_ ia398_ ia399_ ia400_ ia401_ ia402_ ia403_ ia404_ ia405_ ia406_ ia407_ ia408_ ia409_ ia410_ ia411_ ia412_ ia413_ ia414_ ia415_ ia416_ ia417_ ia418_ ia419_ ia420_ ia421_ ia422_ ia423_ ia424_ ia425_ ia426_ ia427_ ia428_ ia429_ ia430_ ia431_ ia432_ ia433_ ia434_ ia435_ ia436_ ia437_ ia438_ ia439_ ia440_ ia441_ ia442_ ia443_ ia444_ ia445_ ia446_ ia447_ ia448_ ia449_ ia450_ ia451_ ia452_ ia453_ ia454_ ia455_ ia456_ ia457_ ia458_ ia459_ ia460_ ia461_ ia462_ ia463_ ia464_ x14_3 x134_3 HO_9 HO_14 ia465_ k3 ia466_ HK3 ia467_ ia468_ ia469_ ia470_ u17 u18 ia471_ ia472_ ia473_ ia474_ ia475_ ia476_ ia477_ ia478_ ia479_ ia480_ ia481_ ia482_ ia483_ ia484_ ia485_ ia486_ ia487_ ia488_ ia489_ ia490_ ia491_ ia492_ ia493_ ia494_ ia495_ ia496_ ia497_ ia498_ ia499_ ia500_ ia501_ ia502_ ia503_ ia504_ ia505_ ia506_ ia507_ ia508_ ia509_ ia510_ ia511_ ia512_ ia513_ ia514_ ia515_ ia516_ ia517_ ia518_ ia519_ ia520_ ia521_ ia522_ ia523_ ia524_ ia525_ ia526_ ia527_ ia528_ ia529_ ia530_ ia531_ ia532_ ia533_ ia534_ ia535_ ia536_ ia537_ ia538_ ia539_ ia540_ ia541_ ia542_ ia543_ ia544_ ia545_ ia546_ ia547_ ia548_ ia549_ ia550_ ia551_ ia552_ ia553_ ia554_ ia555_ ia556_ ia557_ ia558_ ia559_ x210_4 k4 ia560_ HK4 t272 t273 A164 ia561_ w166 ia562_ wc u23 u24 u25 u26 u27 u28 u29 u30 u31 u32 u33 u34 u35 u36 u37 u38 u39 u40 u41 u42 u43 u44 u45 u46 u47 u51 u52 u53 u54 u55 u56 u57 u58 u59 u60 u61 u62 u63 u64 u65 u66 u67 u68 u69 u70 u71 u72 u73 u74 u75 u76 u77 u78 u79 u80 u81 u82 u83 u84 u85 u86 u87 u88 u89 u90 u91 u92 u93 u94 u95 u96 u97 u98 u99 u100 u101 u102 u103 u104 u105 u106 u107 u108 u109 u110 u111 u112 u113 u114 u115 u116 u117 u118 u119 u120 u121 u122 u123 u124 u125 u126 u127 u128 u129 u130 u131 u135 u136 u137 u138 u139 u140 u141 u142 u143 u144 u145 u146 u147 u148 u149 u150 u151 u152 u153 u154 u155 u156 u157 u158 u159 u160 u161 u162 u163 u164 u165 u166 u167 u168 u169 u170 u171 u172 u173 u174 u175 u176 u177 u178 u179 u180 u181 u182 u183 u184 u185 u186 u187 u188 u189 u190 u191 u192 u193 u194 u195 u196 u197 u198 u199 u200 u201 u202 u203 u204 u205 u206 u207 u211 u212 u213 u214 u215 u216 u217 u218 u219 u220 u221 u222 u223 u224 u225 u226 u227 u228 u229 u230 u231 u232 u233 u234 u235 u236 u237 u238 u239 u240 u241 u242 u243 u244 u245 u246 u247 u248 u249 u250 u251 u252 u253 u254 u255 u256 u257 u258 u259 u260 u261 u262 u263 u264 u265 u266 u267 u268 u269 u270 u271 u272 u273 u274 u275 u276 u277 u278 u279 u280 u281 u282 u283 u284 u285 u286 u287 u288 u289 u290 u291 u292 u293 u294 u295 u296 u297 u298 u299 u300 u301 u302 u303 u304 u305 u306 u307 u308 u309 u310 u311 u312 u313 u314 u315 u316 u317 ia563_ ia564_ ia565_ ia566_ ia567_ ia568_ ia569_ ia570_ ia571_ ia572_ ia573_ ia574_ ia575_ ia576_ ia577_ ia578_ ia579_ ia580_ ia581_ ia582_ ia583_ ia584_ ia585_ ia586_ ia587_ ia588_ ia589_ ia590_ ia591_ ia592_ ia593_ ia594_ ia595_ ia596_ ia597_ ia598_ ia599_ ia600_ ia601_ ia602_ ia603_ ia604_ ia605_ ia606_ ia607_ ia608_ ia609_ u369 u370 u371 u372 u373 u374 u375 u376 u377 u378 u379 u380 u381 u382 u383 u384 u385 u386 u387 u388 u389 u390 u391 u392 u393 u394 u395 u396 u397 u398 u399 u400 u401 ia610_ kj164 HJ164 Ao174 co174 ia611_ wr u2 u21 u22 u322 u323 u324 u325 u326 u327 u328 u329 u330 u331 u332 u333 u334 u335 u336 u337 u338 u339 u340 u341 u342 u343 u344 u345 u346 u347 u348 u349 u350 u351 u352 u353 u354 u355 u356 u357 u358 u359 u360 u361 u362 u363 u364 u365 u366 u367 u368 ia612_ ia613_ x321_6 k6 ia614_ HK6 c175b0 t287 A192 t288 A193 c194b0 c194b1 c195b0 c195b1 c198b0 c198b1 y291 Ny291 c199b0 c199b1 y296 Ny296 t299 A200 HT ia615_ ia616_ ia617_ ia618_ ia619_ ia620_ ia621_ ia622_ H HB ad289 A289_0 c289_0 hx289_0 ua289_0 uc289_0 qi289 HR289_0 HC289_0 p289 q289 e290 ua290_0 uc290_0 qi290 p290 q290 HR290_0 HC290_0 hx290_0 cq5_ ad294 hx294_0 hx294_1 HO218 HO222 ia623_ ia624_ ia625_ ia626_ ia627_ ia628_ ia629_ HO_7 ia630_ HO_5 HO214 ia631_ ia632_ ia633_ ia634_ HO275 ia635_ ia636_ ia637_ ia638_ ia639_ ia640_ HO_4 HO_19 hMe289 HL289_0 hMe290 HL290_0 qi294 p294 q294 e295 hx295_0 hx295_1 qi295 p295 q295
     exact hP1890_.out
   ·rw [if_neg c194] at H
    exact (laws_FnShelves.no_false HT H).elim

end Go.Proofs.Ytadloeklhjoohaa.XFnShelves
