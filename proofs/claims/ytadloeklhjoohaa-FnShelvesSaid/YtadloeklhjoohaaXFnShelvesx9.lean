/- What functions of the program compute, as plain Lean functions, and that Go's calls come to just that: written by wip/tools/xprint.py for the law FnShelves. -/
import Derived.Test.YtadloeklhjoohaaXFnShelvesx0
import Derived.Test.YtadloeklhjoohaaXFnShelvesx1
import Derived.Test.YtadloeklhjoohaaXFnShelvesx3
import Derived.Test.YtadloeklhjoohaaXFnShelvesx4
import Derived.Test.YtadloeklhjoohaaXFnShelvesx5
import Derived.Test.YtadloeklhjoohaaXFnShelvesx6
import Derived.Test.YtadloeklhjoohaaXFnShelvesx7
import Derived.Test.YtadloeklhjoohaaXFnShelvesx8
namespace Go.Proofs.Ytadloeklhjoohaa.XFnShelves
open Go.RowKit Go.Proofs.YtadloeklhjoohaaW.PrintWords Go.Proofs.YtadloeklhjoohaaW.PrintLast Go.Proofs.YtadloeklhjoohaaW.PrintMore
attribute [local go_sem] max2_int min2_int max_two min_two max_three min_three max_four min_four   -- for this text's walks alone
set_option linter.unusedVariables false
set_option linter.unusedSimpArgs false

/-! ### laws_FnShelves: function 4 -/
set_option maxHeartbeats 8000000 in
set_option maxRecDepth 100000 in
noncomputable def laws_FnShelves.calls.part2 : PSigma fun P936_ : Prop => Hole P936_ → (laws_FnShelves.calls.part1.1) := by
 refine' ⟨_, fun hP936_ => ?_⟩
 rotate_left 1
 intro k A0 c0 l0 r w HT hu44 HR0 HC0 t211 t212 A3 t215 t216 A4 t219 t220 A5 t223 A6 t226 A7 _ w8 Ao9 co9 w10 v217 w11 v221 w12 w13 HO218 HO222 _ _ _ u13 _ _ _ _ _ _ _ _ _ _ _ x11_1 x50_1 _ _ _ k1 _ HK1 _ _ wc u23 u24 u25 u26 u27 u28 u29 u30 u31 u32 u33 u34 u35 u36 u37 u38 u39 u40 u41 u42 u43 u44 u45 u46 u47 u51 u52 u53 u54 u55 u56 u57 u58 u59 u60 u61 u62 u63 u64 u65 u66 u67 u68 u69 u70 u71 u72 u73 u74 u75 u76 u77 u78 u79 u80 u81 u82 u83 u84 u85 u86 u87 u88 u89 u90 u91 u92 u93 u94 u95 u96 u97 u98 u99 u100 u101 u102 u103 u104 u105 u106 u107 u108 u109 u110 u111 u112 u113 u114 u115 u116 u117 u118 u119 u120 u121 u122 u123 u124 u125 u126 u127 u128 u129 u131 _ _ _ _ _ _ _ _ _ _ _ _ _ _ _ _ _ _ _ _ _ _ _ _ _ _ _ _ _ _ _ _ _ _ _ _ _ _ _ _ _ _ _ _ _ _ _ _ _ _ _ _ _ _ _ _ _ _ _ _ _ _ _ _ _ _ _ _ _ _ _ _ _ u211 u212 u213 u214 u215 u216 u217 u218 u219 u220 u221 u222 u223 u224 u225 u226 u227 u228 u229 u230 u231 u232 u233 u234 u235 u236 u237 u238 u239 u240 u241 u242 u243 u244 u245 u246 u247 u248 u249 u250 u251 u252 u253 u254 u255 u256 u257 u258 u259 u260 u261 u262 u263 u264 u265 u266 u267 u268 u269 u270 u271 u272 u273 u274 u275 u276 u277 u278 u279 u280 u281 u282 u283 u284 u285 u286 u287 u288 u289 u290 u291 u292 u293 u294 u295 u296 u297 u298 u299 u300 u301 u302 u303 u304 u305 u306 u307 u308 u309 u310 u311 u312 u313 u314 u315 u316 u317 u318 u322 u323 u324 u325 u326 u327 u328 u329 u330 u331 u332 u333 u334 u335 u336 u337 u338 u339 u340 u341 u342 u343 u344 u345 u346 u347 u348 u349 u350 u351 u352 u353 u354 u355 u356 u357 u358 u359 u360 u361 u362 u363 u364 u365 u366 u367 u368 u369 u370 u371 u372 u373 u374 u375 u376 u377 u378 u379 u380 u381 u382 u383 u384 u385 u386 u387 u388 u389 u390 u391 u392 u393 u394 u395 u396 u397 u398 u399 u400 u401 kj18 HJ18 y234 Ny234 H' v235 w81 HO_5 HO_7 HB Ao83 co83 HO214 HO225 _ _ _ HO_4 HO_9 HO236 _ _ gk wr u2 u14 u15 u16 u134 u135 u136 u137 u138 u139 u140 u141 u142 u143 u144 u145 u146 u147 u148 u149 u150 u151 u152 u153 u154 u155 u156 u157 u158 u159 u160 u161 u162 u163 u164 u165 u166 u167 u168 u169 u170 u171 u172 u173 u174 u175 u176 u177 u178 u179 u180 u181 u182 u183 u184 u185 u186 u187 u188 u189 u190 u191 u192 u193 u194 u195 u196 u197 u198 u199 u200 u201 u202 u203 u204 u205 u206 u207 hrel _ _ _ _
 clear H'
 (try clear c1); (try clear c2); (try clear c2b0); (try clear c2b1); (try clear p2); (try clear q2); (try clear hx2); (try clear qi2); (try clear c3); (try clear c4); (try clear c5); (try clear p6); (try clear c8); (try clear c14); (try clear c14b0); (try clear c15); (try clear c15b0); (try clear c16); (try clear c16b0); (try clear c17); (try clear c17b0); (try clear c17b1); (try clear c18); (try clear c19); (try clear c20); (try clear c21); (try clear c22); (try clear c22b0); (try clear c22b1); (try clear c22b2); (try clear p22); (try clear q22); (try clear hx22); (try clear qi22); (try clear c23); (try clear c23b0); (try clear c23b1); (try clear c23b2); (try clear c24); (try clear c24b0); (try clear c24b1); (try clear c24b2); (try clear c25); (try clear c25b0); (try clear c30); (try clear c30b0); (try clear c36); (try clear c36b0); (try clear c42); (try clear c49); (try clear c56); (try clear c56b0); (try clear p64); (try clear c80); (try clear hx227_0); (try clear hx228_0); (try clear p2); (try clear p22); (try clear p227); (try clear p228); (try clear p6); (try clear p64); (try clear q2); (try clear q22); (try clear q227); (try clear q228)
 obtain ⟨x14_3, x134_3, rfl, HA, HK3, HO_4, HO_5, HO_7, HO_9, HO_14, HB⟩ := hrel
 cases gk with
 | zero => exact absurd HA.out (by simp [laws_FnShelves.l1])
 | succ k3 =>
  have H := HA.out
  clear HA
  simp only [laws_FnShelves.l1] at H
  by_cases c84 : x134_3 < (t223.length : Int)
  ·rw [if_pos c84] at H
   have c84b0 : decide (x134_3 < (t223.length : Int)) = true := decide_eq_true c84
   clear c84
   by_cases c85 : 0 ≤ x134_3
   rotate_left
   ·rw [if_neg c85] at H
    exact absurd H (by simp)
   rw [if_pos c85] at H
   have c85b0 : decide (0 ≤ x134_3) = true := decide_eq_true c85
   clear c85
   by_cases c86 : x134_3 < (t223.length : Int)
   rotate_left
   ·rw [if_neg c86] at H
    exact absurd H (by simp)
   rw [if_pos c86] at H
   have c86b0 : decide (x134_3 < (t223.length : Int)) = true := decide_eq_true c86
   clear c86
   by_cases c87 : (rd t223 x134_3) < 0
   ·rw [if_pos c87] at H
    exact (laws_FnShelves.no_false HT H).elim
   rw [if_neg c87] at H
   have c87b0 : decide ((rd t223 x134_3) < 0) = false := decide_eq_false c87
   clear c87
   by_cases c89 : (rd t223 x134_3) ≥ (t212.length : Int)
   ·rw [if_pos c89] at H
    exact (laws_FnShelves.no_false HT H).elim
   rw [if_neg c89] at H
   have c89b0 : decide ((t212.length : Int) ≤ (rd t223 x134_3)) = false := decide_eq_false c89
   clear c89
   replace H := Option.bind_eq_some_iff.mp H
   obtain ⟨t238, A910, H⟩ := H
   replace H : (if t238 = true then (some false) else (if x134_3 > 0 then (if 0 ≤ (wrap64 (x134_3 - 1)) then (if (wrap64 (x134_3 - 1)) < (t223.length : Int) then (if 0 ≤ (rd t223 (wrap64 (x134_3 - 1))) then (if (rd t223 (wrap64 (x134_3 - 1))) < (t212.length : Int) then (if 1 < ((rd_L3 t212 (rd t223 (wrap64 (x134_3 - 1)))).length : Int) then (if 0 ≤ (rd t223 x134_3) then (if (rd t223 x134_3) < (t212.length : Int) then (if 1 < ((rd_L3 t212 (rd t223 x134_3)).length : Int) then (if (rd (rd_L3 t212 (rd t223 (wrap64 (x134_3 - 1)))) 1) < (rd (rd_L3 t212 (rd t223 x134_3)) 1) then (some false) else (if (rd (rd_L3 t212 (rd t223 (wrap64 (x134_3 - 1)))) 1) = (rd (rd_L3 t212 (rd t223 x134_3)) 1) then (if (rd t223 (wrap64 (x134_3 - 1))) > (rd t223 x134_3) then (some false) else (if x14_3.length < 17592186044416 then (laws_FnShelves.l1 k3 t211 t212 t215 t216 t219 t220 t223 (x14_3 ++ [rd t223 x134_3]) (t223.length : Int) (wrap64 (x134_3 + 1))) else (none))) else (if x14_3.length < 17592186044416 then (laws_FnShelves.l1 k3 t211 t212 t215 t216 t219 t220 t223 (x14_3 ++ [rd t223 x134_3]) (t223.length : Int) (wrap64 (x134_3 + 1))) else (none)))) else (none)) else (none)) else (none)) else (none)) else (none)) else (none)) else (none)) else (none)) else (if x14_3.length < 17592186044416 then (laws_FnShelves.l1 k3 t211 t212 t215 t216 t219 t220 t223 (x14_3 ++ [rd t223 x134_3]) (t223.length : Int) (wrap64 (x134_3 + 1))) else (none)))) = some r := H
   have A91 := Aside0.mk A910
   clear A910
   by_cases c92 : t238 = true
   ·subst c92
    have H1 : (some false) = some r := by rw [if_pos rfl] at H; exact H
    exact (laws_FnShelves.no_false HT H1).elim
   replace c92 := Bool.eq_false_iff.mpr c92
   subst c92
   have H1 : (if x134_3 > 0 then (if 0 ≤ (wrap64 (x134_3 - 1)) then (if (wrap64 (x134_3 - 1)) < (t223.length : Int) then (if 0 ≤ (rd t223 (wrap64 (x134_3 - 1))) then (if (rd t223 (wrap64 (x134_3 - 1))) < (t212.length : Int) then (if 1 < ((rd_L3 t212 (rd t223 (wrap64 (x134_3 - 1)))).length : Int) then (if 0 ≤ (rd t223 x134_3) then (if (rd t223 x134_3) < (t212.length : Int) then (if 1 < ((rd_L3 t212 (rd t223 x134_3)).length : Int) then (if (rd (rd_L3 t212 (rd t223 (wrap64 (x134_3 - 1)))) 1) < (rd (rd_L3 t212 (rd t223 x134_3)) 1) then (some false) else (if (rd (rd_L3 t212 (rd t223 (wrap64 (x134_3 - 1)))) 1) = (rd (rd_L3 t212 (rd t223 x134_3)) 1) then (if (rd t223 (wrap64 (x134_3 - 1))) > (rd t223 x134_3) then (some false) else (if x14_3.length < 17592186044416 then (laws_FnShelves.l1 k3 t211 t212 t215 t216 t219 t220 t223 (x14_3 ++ [rd t223 x134_3]) (t223.length : Int) (wrap64 (x134_3 + 1))) else (none))) else (if x14_3.length < 17592186044416 then (laws_FnShelves.l1 k3 t211 t212 t215 t216 t219 t220 t223 (x14_3 ++ [rd t223 x134_3]) (t223.length : Int) (wrap64 (x134_3 + 1))) else (none)))) else (none)) else (none)) else (none)) else (none)) else (none)) else (none)) else (none)) else (none)) else (if x14_3.length < 17592186044416 then (laws_FnShelves.l1 k3 t211 t212 t215 t216 t219 t220 t223 (x14_3 ++ [rd t223 x134_3]) (t223.length : Int) (wrap64 (x134_3 + 1))) else (none))) = some r := by rw [if_neg (show ¬ (false = true) by decide)] at H; exact H
   clear H
   have H := H1
   clear H1
   by_cases c95 : x134_3 > 0
   ·rw [if_pos c95] at H
    have c95b0 : decide (0 < x134_3) = true := decide_eq_true c95
    clear c95
    obtain ⟨ji96, hji96⟩ : ∃ j_ : Int, (wrap64 (x134_3 - 1)) = j_ := ⟨_, rfl⟩
    replace H : (if 0 ≤ (ji96) then (if (ji96) < (t223.length : Int) then (if 0 ≤ (rd t223 (ji96)) then (if (rd t223 (ji96)) < (t212.length : Int) then (if 1 < ((rd_L3 t212 (rd t223 (ji96))).length : Int) then (if 0 ≤ (rd t223 x134_3) then (if (rd t223 x134_3) < (t212.length : Int) then (if 1 < ((rd_L3 t212 (rd t223 x134_3)).length : Int) then (if (rd (rd_L3 t212 (rd t223 (ji96))) 1) < (rd (rd_L3 t212 (rd t223 x134_3)) 1) then (some false) else (if (rd (rd_L3 t212 (rd t223 (ji96))) 1) = (rd (rd_L3 t212 (rd t223 x134_3)) 1) then (if (rd t223 (ji96)) > (rd t223 x134_3) then (some false) else (if x14_3.length < 17592186044416 then (laws_FnShelves.l1 k3 t211 t212 t215 t216 t219 t220 t223 (x14_3 ++ [rd t223 x134_3]) (t223.length : Int) (wrap64 (x134_3 + 1))) else (none))) else (if x14_3.length < 17592186044416 then (laws_FnShelves.l1 k3 t211 t212 t215 t216 t219 t220 t223 (x14_3 ++ [rd t223 x134_3]) (t223.length : Int) (wrap64 (x134_3 + 1))) else (none)))) else (none)) else (none)) else (none)) else (none)) else (none)) else (none)) else (none)) else (none)) = some r := by first | (rw [hji96] at H; exact H) | (simp only [hji96] at H ⊢; exact H)
    (try rw [hji96] at A91)
    have hji96w : (IntKind.i64.wrap (x134_3 - 1)) = ji96 := (i64_w _).trans hji96
    by_cases c97 : 0 ≤ (ji96)
    rotate_left
    ·rw [if_neg c97] at H
     exact absurd H (by simp)
    rw [if_pos c97] at H
    have c97b0 : decide (0 ≤ (ji96)) = true := decide_eq_true c97
    clear c97
    by_cases c98 : (ji96) < (t223.length : Int)
    rotate_left
    ·rw [if_neg c98] at H
     exact absurd H (by simp)
    rw [if_pos c98] at H
    have c98b0 : decide ((ji96) < (t223.length : Int)) = true := decide_eq_true c98
    clear c98
    by_cases c99 : 0 ≤ (rd t223 (ji96))
    rotate_left
    ·rw [if_neg c99] at H
     exact absurd H (by simp)
    rw [if_pos c99] at H
    have c99b0 : decide (0 ≤ (rd t223 (ji96))) = true := decide_eq_true c99
    clear c99
    by_cases c100 : (rd t223 (ji96)) < (t212.length : Int)
    rotate_left
    ·rw [if_neg c100] at H
     exact absurd H (by simp)
    rw [if_pos c100] at H
    have c100b0 : decide ((rd t223 (ji96)) < (t212.length : Int)) = true := decide_eq_true c100
    clear c100
    by_cases c101 : 1 < ((rd_L3 t212 (rd t223 (ji96))).length : Int)
    rotate_left
    ·rw [if_neg c101] at H
     exact absurd H (by simp)
    rw [if_pos c101] at H
    have c101b0 : decide (1 < ((rd_L3 t212 (rd t223 (ji96))).length : Int)) = true := decide_eq_true c101
    have c101b1 : decide (1 < (rd_L3 t212 (rd t223 (ji96))).length) = true := decide_eq_true (by omega)
    clear c101
    by_cases c102 : 0 ≤ (rd t223 x134_3)
    rotate_left
    ·rw [if_neg c102] at H
     exact absurd H (by simp)
    rw [if_pos c102] at H
    have c102b0 : decide (0 ≤ (rd t223 x134_3)) = true := decide_eq_true c102
    clear c102
    by_cases c103 : (rd t223 x134_3) < (t212.length : Int)
    rotate_left
    ·rw [if_neg c103] at H
     exact absurd H (by simp)
    rw [if_pos c103] at H
    have c103b0 : decide ((rd t223 x134_3) < (t212.length : Int)) = true := decide_eq_true c103
    clear c103
    by_cases c104 : 1 < ((rd_L3 t212 (rd t223 x134_3)).length : Int)
    rotate_left
    ·rw [if_neg c104] at H
     exact absurd H (by simp)
    rw [if_pos c104] at H
    have c104b0 : decide (1 < ((rd_L3 t212 (rd t223 x134_3)).length : Int)) = true := decide_eq_true c104
    have c104b1 : decide (1 < (rd_L3 t212 (rd t223 x134_3)).length) = true := decide_eq_true (by omega)
    clear c104
    by_cases c105 : (rd (rd_L3 t212 (rd t223 (ji96))) 1) < (rd (rd_L3 t212 (rd t223 x134_3)) 1)
    ·rw [if_pos c105] at H
     exact (laws_FnShelves.no_false HT H).elim
    rw [if_neg c105] at H
    have c105b0 : decide ((rd (rd_L3 t212 (rd t223 (ji96))) 1) < (rd (rd_L3 t212 (rd t223 x134_3)) 1)) = false := decide_eq_false c105
    clear c105
    by_cases c108 : (rd (rd_L3 t212 (rd t223 (ji96))) 1) = (rd (rd_L3 t212 (rd t223 x134_3)) 1)
    ·rw [if_pos c108] at H
     have c108b0 : ((rd (rd_L3 t212 (rd t223 (ji96))) 1) == (rd (rd_L3 t212 (rd t223 x134_3)) 1)) = true := beq_iff_eq.mpr c108
     have c108b1 : ((rd (rd_L3 t212 (rd t223 (ji96))) 1) != (rd (rd_L3 t212 (rd t223 x134_3)) 1)) = false := bne_eq_false_iff_eq.mpr c108
     clear c108
     by_cases c109 : (rd t223 (ji96)) > (rd t223 x134_3)
     ·rw [if_pos c109] at H
      exact (laws_FnShelves.no_false HT H).elim
     rw [if_neg c109] at H
     have c109b0 : decide ((rd t223 x134_3) < (rd t223 (ji96))) = false := decide_eq_false c109
     clear c109
     by_cases c112 : x14_3.length < 17592186044416
     rotate_left
     ·rw [if_neg c112] at H
      exact absurd H (by simp)
     rw [if_pos c112] at H
     have LMc112 := Aside0.mk c112
     clear c112
     obtain ⟨y250, hy250⟩ : ∃ y_ : List Int, y_ = (x14_3 ++ [rd t223 x134_3]) := ⟨_, rfl⟩
     replace H : (laws_FnShelves.l1 k3 t211 t212 t215 t216 t219 t220 t223 y250 (t223.length : Int) (wrap64 (x134_3 + 1))) = some r := by first | (rw [hy250]; with_reducible exact H) | (have H2_ := (Option.bind_some _ _).symm.trans H; rw [hy250]; with_reducible exact H2_) | (have H2_ := (Option.bind_some _ _).symm.trans H; with_reducible exact H2_) | with_reducible exact H | (rw [hy250]; exact H) | exact H
     have Ny250 := Aside0.mk hy250
     clear hy250
     have H' := Aside0.mk H
     clear H
     have p237 : 0 ≤ (x134_3 : Int) := of_decide_eq_true (by first | (with_reducible assumption) | assumption)
     have q237 : x134_3 < (t223.length : Int) := of_decide_eq_true (by first | (with_reducible assumption) | assumption)
     obtain ⟨ad237, e237, hx237_0⟩ := Kd.at_int (Kd.R_reads' HO_9.out).2.2 x134_3 p237 q237
     cases e237
     replace p237 := eq_true p237
     replace q237 := eq_true q237
     try go_wp2
     have n0_ := Aside0.mk (Kd.N_drew HO_4.out)
     have n1_ := Aside0.mk (Kd.R_drew HO_5.out)
     have n2_ := Aside0.mk (Kd.R_drew HO_7.out)
     have n3_ := Aside0.mk (Kd.R_drew HO_9.out)
     have n4_ := Aside0.mk (Kd.R_drew HO_14.out)
     have n5_ := Aside0.mk (below_drew1 HB.out)
     clear HO_4
     clear HO_5
     clear HO_7
     clear HO_9
     clear HO_14
     clear HB
     have HO_4 := n0_
     have HO_5 := n1_
     have HO_7 := n2_
     have HO_9 := n3_
     have HO_14 := n4_
     have HB := n5_
     clear n0_ n1_ n2_ n3_ n4_ n5_
     obtain ⟨Ao114, co114, eo114⟩ := Kd.R_slice HO_14.out
     (first | subst eo114 | (injection eo114 with f1_ f2_ f3_; have f4_ := f1_.symm; have f5_ := f3_.symm; clear f1_ f2_ f3_; subst f4_; subst f5_))
     have p239 : 0 ≤ ((ji96) : Int) := of_decide_eq_true (by first | (with_reducible assumption) | assumption)
     have q239 : (ji96) < (t223.length : Int) := of_decide_eq_true (by first | (with_reducible assumption) | assumption)
     obtain ⟨ad239, e239, hx239_0⟩ := Kd.at_int (Kd.R_reads' HO_9.out).2.2 (ji96) p239 q239
     obtain rfl : ad237 = ad239 := (by injection e239)
     replace p239 := eq_true p239
     replace q239 := eq_true q239
     have p240 : 0 ≤ ((rd t223 (ji96)) : Int) := of_decide_eq_true (by first | (with_reducible assumption) | assumption)
     have q240 : (rd t223 (ji96)) < (t212.length : Int) := of_decide_eq_true (by first | (with_reducible assumption) | assumption)
     obtain ⟨ad240, A240_0, c240_0, e240, hx240_0, hl240_0, hi240_0⟩ := at_L3 (Kd.N_reads' HO_4.out).2.2 (rd t223 (ji96)) p240 q240
     cases e240
     obtain ⟨ce240, hce240, hMe240, hcc240⟩ := Kd.N_get HO_4.out [] (rd t223 (ji96)) p240 (by first | exact q240 | exact of_decide_eq_true (by first | (with_reducible assumption) | assumption) | (have e_ := (Kd.N_reads' HO_4.out).1; omega))
     obtain ⟨ua240_0, uc240_0, rfl, ul240_0, ge240_0⟩ := Kd.FK_slice_open hMe240
     have hv240_0 := hcc240 0 _ rfl
     rw [Nat.add_zero, show ((Kd.slice 3 (Kd.int .i64))).sz = 1 from rfl, Nat.mul_one] at hv240_0
     replace hv240_0 := Option.some.inj (hv240_0.symm.trans hx240_0)
     injection hv240_0 with hva_ hvn_ hvc_
     rw [hva_] at ge240_0
     rw [hvc_] at ul240_0
     have HL240_0 := Aside0.mk (show Kd.V (Kd.int .i64) 3 _ w.heap.size _ _ (rd_L3 t212 (rd t223 (ji96))) from Kd.V_mk ul240_0 ge240_0)
     clear hva_ hvn_ hvc_ ge240_0 ul240_0
     clear hcc240 hce240
     have HR240_0 := Aside0.mk hi240_0
     have HC240_0 := Aside0.mk hl240_0
     clear hi240_0 hl240_0
     replace p240 := eq_true p240
     replace q240 := eq_true q240
     have p242 : 0 ≤ ((rd t223 x134_3) : Int) := of_decide_eq_true (by first | (with_reducible assumption) | assumption)
     have q242 : (rd t223 x134_3) < (t212.length : Int) := of_decide_eq_true (by first | (with_reducible assumption) | assumption)
     obtain ⟨ad242, A242_0, c242_0, e242, hx242_0, hl242_0, hi242_0⟩ := at_L3 (Kd.N_reads' HO_4.out).2.2 (rd t223 x134_3) p242 q242
     obtain rfl : ad240 = ad242 := (by injection e242)
     obtain ⟨ce242, hce242, hMe242, hcc242⟩ := Kd.N_get HO_4.out [] (rd t223 x134_3) p242 (by first | exact q242 | exact of_decide_eq_true (by first | (with_reducible assumption) | assumption) | (have e_ := (Kd.N_reads' HO_4.out).1; omega))
     obtain ⟨ua242_0, uc242_0, rfl, ul242_0, ge242_0⟩ := Kd.FK_slice_open hMe242
     have hv242_0 := hcc242 0 _ rfl
     rw [Nat.add_zero, show ((Kd.slice 3 (Kd.int .i64))).sz = 1 from rfl, Nat.mul_one] at hv242_0
     replace hv242_0 := Option.some.inj (hv242_0.symm.trans hx242_0)
     injection hv242_0 with hva_ hvn_ hvc_
     rw [hva_] at ge242_0
     rw [hvc_] at ul242_0
     have HL242_0 := Aside0.mk (show Kd.V (Kd.int .i64) 3 _ w.heap.size _ _ (rd_L3 t212 (rd t223 x134_3)) from Kd.V_mk ul242_0 ge242_0)
     clear hva_ hvn_ hvc_ ge242_0 ul242_0
     clear hcc242 hce242
     have HR242_0 := Aside0.mk hi242_0
     have HC242_0 := Aside0.mk hl242_0
     clear hi242_0 hl242_0
     replace p242 := eq_true p242
     replace q242 := eq_true q242
     have p244 : 0 ≤ ((ji96) : Int) := of_decide_eq_true (by first | (with_reducible assumption) | assumption)
     have q244 : (ji96) < (t223.length : Int) := of_decide_eq_true (by first | (with_reducible assumption) | assumption)
     obtain ⟨ad244, e244, hx244_0⟩ := Kd.at_int (Kd.R_reads' HO_9.out).2.2 (ji96) p244 q244
     obtain rfl : ad237 = ad244 := (by injection e244)
     replace p244 := eq_true p244
     replace q244 := eq_true q244
     have p245 : 0 ≤ ((rd t223 (ji96)) : Int) := of_decide_eq_true (by first | (with_reducible assumption) | assumption)
     have q245 : (rd t223 (ji96)) < (t212.length : Int) := of_decide_eq_true (by first | (with_reducible assumption) | assumption)
     obtain ⟨ad245, A245_0, c245_0, e245, hx245_0, hl245_0, hi245_0⟩ := at_L3 (Kd.N_reads' HO_4.out).2.2 (rd t223 (ji96)) p245 q245
     obtain rfl : ad240 = ad245 := (by injection e245)
     obtain ⟨ce245, hce245, hMe245, hcc245⟩ := Kd.N_get HO_4.out [] (rd t223 (ji96)) p245 (by first | exact q245 | exact of_decide_eq_true (by first | (with_reducible assumption) | assumption) | (have e_ := (Kd.N_reads' HO_4.out).1; omega))
     obtain ⟨ua245_0, uc245_0, rfl, ul245_0, ge245_0⟩ := Kd.FK_slice_open hMe245
     have hv245_0 := hcc245 0 _ rfl
     rw [Nat.add_zero, show ((Kd.slice 3 (Kd.int .i64))).sz = 1 from rfl, Nat.mul_one] at hv245_0
     replace hv245_0 := Option.some.inj (hv245_0.symm.trans hx245_0)
     injection hv245_0 with hva_ hvn_ hvc_
     rw [hva_] at ge245_0
     rw [hvc_] at ul245_0
     have HL245_0 := Aside0.mk (show Kd.V (Kd.int .i64) 3 _ w.heap.size _ _ (rd_L3 t212 (rd t223 (ji96))) from Kd.V_mk ul245_0 ge245_0)
     clear hva_ hvn_ hvc_ ge245_0 ul245_0
     clear hcc245 hce245
     have HR245_0 := Aside0.mk hi245_0
     have HC245_0 := Aside0.mk hl245_0
     clear hi245_0 hl245_0
     replace p245 := eq_true p245
     replace q245 := eq_true q245
     have ea_ := Option.some.inj (hx240_0.symm.trans hx245_0)
     injection ea_ with ea_ en_ ec_
     subst ea_
     subst ec_
     clear en_
     have p247 : 0 ≤ ((rd t223 x134_3) : Int) := of_decide_eq_true (by first | (with_reducible assumption) | assumption)
     have q247 : (rd t223 x134_3) < (t212.length : Int) := of_decide_eq_true (by first | (with_reducible assumption) | assumption)
     obtain ⟨ad247, A247_0, c247_0, e247, hx247_0, hl247_0, hi247_0⟩ := at_L3 (Kd.N_reads' HO_4.out).2.2 (rd t223 x134_3) p247 q247
     obtain rfl : ad240 = ad247 := (by injection e247)
     obtain ⟨ce247, hce247, hMe247, hcc247⟩ := Kd.N_get HO_4.out [] (rd t223 x134_3) p247 (by first | exact q247 | exact of_decide_eq_true (by first | (with_reducible assumption) | assumption) | (have e_ := (Kd.N_reads' HO_4.out).1; omega))
     obtain ⟨ua247_0, uc247_0, rfl, ul247_0, ge247_0⟩ := Kd.FK_slice_open hMe247
     have hv247_0 := hcc247 0 _ rfl
     rw [Nat.add_zero, show ((Kd.slice 3 (Kd.int .i64))).sz = 1 from rfl, Nat.mul_one] at hv247_0
     replace hv247_0 := Option.some.inj (hv247_0.symm.trans hx247_0)
     injection hv247_0 with hva_ hvn_ hvc_
     rw [hva_] at ge247_0
     rw [hvc_] at ul247_0
     have HL247_0 := Aside0.mk (show Kd.V (Kd.int .i64) 3 _ w.heap.size _ _ (rd_L3 t212 (rd t223 x134_3)) from Kd.V_mk ul247_0 ge247_0)
     clear hva_ hvn_ hvc_ ge247_0 ul247_0
     clear hcc247 hce247
     have HR247_0 := Aside0.mk hi247_0
     have HC247_0 := Aside0.mk hl247_0
     clear hi247_0 hl247_0
     replace p247 := eq_true p247
     replace q247 := eq_true q247
     have ea_ := Option.some.inj (hx242_0.symm.trans hx247_0)
     injection ea_ with ea_ en_ ec_
     subst ea_
     subst ec_
     clear en_
     have p249 : 0 ≤ ((ji96) : Int) := of_decide_eq_true (by first | (with_reducible assumption) | assumption)
     have q249 : (ji96) < (t223.length : Int) := of_decide_eq_true (by first | (with_reducible assumption) | assumption)
     obtain ⟨ad249, e249, hx249_0⟩ := Kd.at_int (Kd.R_reads' HO_9.out).2.2 (ji96) p249 q249
     obtain rfl : ad237 = ad249 := (by injection e249)
     replace p249 := eq_true p249
     replace q249 := eq_true q249
     have p241 : 0 ≤ (1 : Int) := (by omega)
     have q241 : 1 < ((rd_L3 t212 (rd t223 (ji96))).length : Int) := of_decide_eq_true (by first | (with_reducible assumption) | assumption)
     obtain ⟨ad241, e241, hx241_0⟩ := Kd.at_int HR240_0.out 1 p241 q241
     cases e241
     (try simp only [show (1 : Int).toNat = 1 from rfl, Nat.reduceMul, Nat.reduceEqDiff, Go.Addr.add, ↓reduceIte] at hx241_0)
     have qi241 : (1 < (rd_L3 t212 (rd t223 (ji96))).length) = True := eq_true (by omega)
     (try rw [show ((1 : Int)).toNat = 1 from rfl] at hx241_0)
     replace p241 := eq_true p241
     replace q241 := eq_true q241
     have p243 : 0 ≤ (1 : Int) := (by omega)
     have q243 : 1 < ((rd_L3 t212 (rd t223 x134_3)).length : Int) := of_decide_eq_true (by first | (with_reducible assumption) | assumption)
     obtain ⟨ad243, e243, hx243_0⟩ := Kd.at_int HR242_0.out 1 p243 q243
     cases e243
     (try simp only [show (1 : Int).toNat = 1 from rfl, Nat.reduceMul, Nat.reduceEqDiff, Go.Addr.add, ↓reduceIte] at hx243_0)
     have qi243 : (1 < (rd_L3 t212 (rd t223 x134_3)).length) = True := eq_true (by omega)
     (try rw [show ((1 : Int)).toNat = 1 from rfl] at hx243_0)
     replace p243 := eq_true p243
     replace q243 := eq_true q243
     have p246 : 0 ≤ (1 : Int) := (by omega)
     have q246 : 1 < ((rd_L3 t212 (rd t223 (ji96))).length : Int) := of_decide_eq_true (by first | (with_reducible assumption) | assumption)
     obtain ⟨ad246, e246, hx246_0⟩ := Kd.at_int HR245_0.out 1 p246 q246
     obtain rfl : ad241 = ad246 := (by injection e246)
     (try simp only [show (1 : Int).toNat = 1 from rfl, Nat.reduceMul, Nat.reduceEqDiff, Go.Addr.add, ↓reduceIte] at hx246_0)
     have qi246 : (1 < (rd_L3 t212 (rd t223 (ji96))).length) = True := eq_true (by omega)
     (try rw [show ((1 : Int)).toNat = 1 from rfl] at hx246_0)
     replace p246 := eq_true p246
     replace q246 := eq_true q246
     have p248 : 0 ≤ (1 : Int) := (by omega)
     have q248 : 1 < ((rd_L3 t212 (rd t223 x134_3)).length : Int) := of_decide_eq_true (by first | (with_reducible assumption) | assumption)
     obtain ⟨ad248, e248, hx248_0⟩ := Kd.at_int HR247_0.out 1 p248 q248
     obtain rfl : ad243 = ad248 := (by injection e248)
     (try simp only [show (1 : Int).toNat = 1 from rfl, Nat.reduceMul, Nat.reduceEqDiff, Go.Addr.add, ↓reduceIte] at hx248_0)
     have qi248 : (1 < (rd_L3 t212 (rd t223 x134_3)).length) = True := eq_true (by omega)
     (try rw [show ((1 : Int)).toNat = 1 from rfl] at hx248_0)
     replace p248 := eq_true p248
     replace q248 := eq_true q248
     as_aux_lemma =>
      refine start_ (n := 64) (S := fun w' => w'.cell? (ad237.add ((ji96)).toNat) = some (.int .i64 (rd t223 (ji96))) ∧ w'.cell? (ad240.add ((rd t223 (ji96))).toNat) = some (.slice (some ad241) (rd_L3 t212 (rd t223 (ji96))).length c240_0) ∧ w'.cell? ⟨ad241.block, ad241.off + 1, none⟩ = some (.int .i64 (rd (rd_L3 t212 (rd t223 (ji96))) 1)) ∧ w'.cell? (ad240.add ((rd t223 x134_3)).toNat) = some (.slice (some ad243) (rd_L3 t212 (rd t223 x134_3)).length c242_0) ∧ w'.cell? ⟨ad243.block, ad243.off + 1, none⟩ = some (.int .i64 (rd (rd_L3 t212 (rd t223 x134_3)) 1)) ∧ w'.cell? (ad237.add ((ji96)).toNat) = some (.int .i64 (rd t223 (ji96))) ∧ w'.cell? (ad240.add ((rd t223 (ji96))).toNat) = some (.slice (some ad241) (rd_L3 t212 (rd t223 (ji96))).length c240_0) ∧ w'.cell? ⟨ad241.block, ad241.off + 1, none⟩ = some (.int .i64 (rd (rd_L3 t212 (rd t223 (ji96))) 1)) ∧ w'.cell? (ad240.add ((rd t223 x134_3)).toNat) = some (.slice (some ad243) (rd_L3 t212 (rd t223 x134_3)).length c242_0) ∧ w'.cell? ⟨ad243.block, ad243.off + 1, none⟩ = some (.int .i64 (rd (rd_L3 t212 (rd t223 x134_3)) 1)) ∧ w'.cell? (ad237.add ((ji96)).toNat) = some (.int .i64 (rd t223 (ji96)))) (ds := []) (qC_ 64 0) (by kernel_rfl) rfl rfl ⟨hx239_0, hx240_0, hx241_0, hx242_0, hx243_0, hx244_0, hx245_0, hx246_0, hx247_0, hx248_0, hx249_0⟩ (fun hHeld => ?_); refine with_tabW laws_FnShelves.tab20 laws_FnShelves.bits20 (fun HT_ HW_ => ?_)
      generalize wr.drew = w113 at HO_4 HO_5 HO_7 HO_9 HO_14 HB HL240_0 HL242_0 HL245_0 HL247_0 HR240_0 HR242_0 HR245_0 HR247_0 hx239_0 hx240_0 hx242_0 hx244_0 hx245_0 hx247_0 hx249_0 hx241_0 hx243_0 hx246_0 hx248_0 hHeld ⊢
      iterate 11 (first | (refine rz_ HT_ ?zy ?zp ?_ (v := ?_) (a' := ?_); (case zy => intro w'; go_simp; with_reducible rfl); (case zp => simp only [Act.put, List.setIfInBounds_toArray, List.set_cons_zero, List.set_cons_succ, i64_w, i32_w]; rfl)))
      refine one_ (i := 11) (N := some 150) (qC_ 64 12) rfl rfl (one_of HT_.out (by kernel_rfl)) (by decide) (fun K hK => ?_)
      refine goes_ Try.func24 (by kernel_rfl) rfl #[.slice Ao114 x14_3.length co114, .int .i64 (rd t223 x134_3)] (by rfl) rfl rfl (by (try simp only [List.map_toArray, List.map_cons, List.map_nil]); first | done | rfl | (simp only [List.length_drop, List.length_take]; rfl)) ?_
      with_reducible refine (laws_has.calls k3 _ _ x14_3 (rd t223 x134_3) false _ ?side1 ?side2 A91.out).mono ?_
      (case side1 => repeat (first | exact (Kd.R_reads' HO_14.out).2.2 | (with_reducible refine Kd.C_alloc ?_ _) | (with_reducible refine Kd.C_drewN ?_ _) | (with_reducible refine Kd.C_drew ?_)))
      (case side2 => exact (Kd.R_reads' HO_14.out).2.1)
      rintro e w' ⟨rfl, ⟨nd, rfl⟩⟩
      refine ⟨_, rfl, ?_⟩
      refine hK.out _ _ ⟨hHeld.1, hHeld.2.1, hHeld.2.2.1, hHeld.2.2.2.1, hHeld.2.2.2.2.1, hHeld.2.2.2.2.2.1, hHeld.2.2.2.2.2.2.1, hHeld.2.2.2.2.2.2.2.1, hHeld.2.2.2.2.2.2.2.2.1, hHeld.2.2.2.2.2.2.2.2.2.1, hHeld.2.2.2.2.2.2.2.2.2.2⟩ (fun hHeld => ?_)
      clear hK K
      refine norm_ (a' := ?_) ?_ ?_
      rotate_left
      ·show Act.put _ (some 150) _ = _
       simp only [Act.put, List.setIfInBounds_toArray, List.set_cons_zero, List.set_cons_succ, i64_w, i32_w]
       rfl
      iterate 52 (first | (refine rz_ HT_ ?zy ?zp ?_ (v := ?_) (a' := ?_); (case zy => intro w'; go_simp; with_reducible rfl); (case zp => simp only [Act.put, List.setIfInBounds_toArray, List.set_cons_zero, List.set_cons_succ, i64_w, i32_w]; rfl)) | (refine rt_ HT_ HW_ hHeld ?zy ?zp ?_ (v := ?_) (a' := ?_); (case zy => rintro w' ⟨s0, s1, s2, s3, s4, s5, s6, s7, s8, s9, s10⟩; go_simp; with_reducible rfl); (case zp => simp only [Act.put, List.setIfInBounds_toArray, List.set_cons_zero, List.set_cons_succ, i64_w, i32_w]; rfl)))
      refine done_ (done_of HT_.out (by kernel_rfl)) ?_
      try go_wp2_with (first | ((with_reducible refine gate_builtin (b := .append) (xs := #[.tmp 203, .tmp 205]) rfl ?_); (try (refine gate_guard (by rfl) ?_; dsimp only)); at_builtin; refine Kd.R_append (Kd.int .i64) (w0 := w) w.heap.size rfl (.tmp 203) (.tmp 205) 27 3 (.int .i64 0) 8 rfl Try.underlying27 info3 rfl (by decide) (by omega) (.slice Ao114 x14_3.length co114) x14_3 (rd t223 x134_3) [.int .i64 (rd t223 x134_3)] (fun k_ => some k_ ≠ (.slice (some ad237) t223.length co83 : Value).ownBlock) (fun _ => False) rfl rfl ?aP (fun _ hk => hk.elim) ?aF ?aO ?aB ?aS ?aL ?_; (case aP => exact rfl); (case aB => exact (by repeat (first | (with_reducible first | exact HB.out | apply below_alloc | apply pw_below_drewN | apply below_drew1) | exact HB.out))); (case aF => exact (fun k_ hk => Kd.fresh' (Kd.R_lt (by (with_reducible repeat (first | apply Kd.R_alloc | apply Kd.R_drewN | apply Kd.R_drew)); exact HO_9.out)) k_ hk)); (case aO => exact (by (with_reducible repeat (first | apply Kd.R_alloc | apply Kd.R_drewN | apply Kd.R_drew)); exact HO_14.out)); (case aS => exact (below_size (by repeat (first | (with_reducible first | exact HB.out | apply below_alloc | apply pw_below_drewN | apply below_drew1) | exact HB.out)))); (case aL => have := LMc112.out; omega); intro v251 w115 ho hb hg hat; rw [← Ny250.out] at ho; have n0_ := Aside0.mk (Kd.N_afterv (ok := (fun k_ => some k_ ≠ (v217 : Value).ownBlock ∧ some k_ ≠ (v221 : Value).ownBlock ∧ some k_ ≠ (.slice (some ad237) t223.length co83 : Value).ownBlock)) (by (with_reducible repeat (first | apply Kd.N_alloc | apply Kd.N_drewN | apply Kd.N_drew)); exact Kd.N_mono HO_4.out (fun _ hk => ⟨⟨hk.1, ⟨hk.2.1, hk.2.2.1⟩⟩, hk.2.2.2⟩)) hg hat); have n1_ := Aside0.mk (Kd.R_over' (by (with_reducible repeat (first | apply Kd.R_alloc | apply Kd.R_drewN | apply Kd.R_drew)); exact HO_5.out) (Kd.R_typed (by (with_reducible repeat (first | apply Kd.R_alloc | apply Kd.R_drewN | apply Kd.R_drew)); exact HO_14.out)) (by decide) hg); have n2_ := Aside0.mk (Kd.R_over' (by (with_reducible repeat (first | apply Kd.R_alloc | apply Kd.R_drewN | apply Kd.R_drew)); exact HO_7.out) (Kd.R_typed (by (with_reducible repeat (first | apply Kd.R_alloc | apply Kd.R_drewN | apply Kd.R_drew)); exact HO_14.out)) (by decide) hg); have n3_ := Aside0.mk (Kd.R_after (ok := (fun _ => True)) (by (with_reducible repeat (first | apply Kd.R_alloc | apply Kd.R_drewN | apply Kd.R_drew)); exact Kd.R_mono HO_9.out (fun _ hk => ⟨trivial, hk⟩)) hg hat); have n4_ := Aside0.mk (Kd.V_afterv (ok := (fun k_ => some k_ ≠ (.slice (some ad240) t212.length co9 : Value).ownBlock ∧ some k_ ≠ (v217 : Value).ownBlock ∧ some k_ ≠ (v221 : Value).ownBlock ∧ some k_ ≠ (.slice (some ad237) t223.length co83 : Value).ownBlock)) (by (with_reducible repeat (first | apply Kd.V_alloc | apply Kd.V_drewN | apply Kd.V_drew)); exact Kd.V_mono HL240_0.out (fun _ hk => ⟨⟨hk.2, ⟨hk.1.1, ⟨hk.1.2.1, hk.1.2.2.1⟩⟩⟩, hk.1.2.2.2⟩)) hg hat); have n5_ := Aside0.mk (Kd.V_afterv (ok := (fun k_ => some k_ ≠ (.slice (some ad240) t212.length co9 : Value).ownBlock ∧ some k_ ≠ (v217 : Value).ownBlock ∧ some k_ ≠ (v221 : Value).ownBlock ∧ some k_ ≠ (.slice (some ad237) t223.length co83 : Value).ownBlock)) (by (with_reducible repeat (first | apply Kd.V_alloc | apply Kd.V_drewN | apply Kd.V_drew)); exact Kd.V_mono HL242_0.out (fun _ hk => ⟨⟨hk.2, ⟨hk.1.1, ⟨hk.1.2.1, hk.1.2.2.1⟩⟩⟩, hk.1.2.2.2⟩)) hg hat); have n6_ := Aside0.mk (Kd.V_afterv (ok := (fun k_ => some k_ ≠ (.slice (some ad240) t212.length co9 : Value).ownBlock ∧ some k_ ≠ (v217 : Value).ownBlock ∧ some k_ ≠ (v221 : Value).ownBlock ∧ some k_ ≠ (.slice (some ad237) t223.length co83 : Value).ownBlock)) (by (with_reducible repeat (first | apply Kd.V_alloc | apply Kd.V_drewN | apply Kd.V_drew)); exact Kd.V_mono HL245_0.out (fun _ hk => ⟨⟨hk.2, ⟨hk.1.1, ⟨hk.1.2.1, hk.1.2.2.1⟩⟩⟩, hk.1.2.2.2⟩)) hg hat); have n7_ := Aside0.mk (Kd.V_afterv (ok := (fun k_ => some k_ ≠ (.slice (some ad240) t212.length co9 : Value).ownBlock ∧ some k_ ≠ (v217 : Value).ownBlock ∧ some k_ ≠ (v221 : Value).ownBlock ∧ some k_ ≠ (.slice (some ad237) t223.length co83 : Value).ownBlock)) (by (with_reducible repeat (first | apply Kd.V_alloc | apply Kd.V_drewN | apply Kd.V_drew)); exact Kd.V_mono HL247_0.out (fun _ hk => ⟨⟨hk.2, ⟨hk.1.1, ⟨hk.1.2.1, hk.1.2.2.1⟩⟩⟩, hk.1.2.2.2⟩)) hg hat); have n8_ := Aside0.mk (hb); have n9_ := Aside0.mk (ho); clear HO_4; clear HO_5; clear HO_7; clear HO_9; clear HL240_0; clear HL242_0; clear HL245_0; clear HL247_0; clear HB; clear HO_14; have HO_4 := n0_; have HO_5 := n1_; have HO_7 := n2_; have HO_9 := n3_; have HL240_0 := n4_; have HL242_0 := n5_; have HL245_0 := n6_; have HL247_0 := n7_; have HB := n8_; have HO252 := n9_; clear n0_ n1_ n2_ n3_ n4_ n5_ n6_ n7_ n8_ n9_; clear ho hb hg hat))
      go_roundg k3
      case measure => have := HK1.out; have := HJ18.out; have := HK3.out; omega
      case rel => exact ⟨(y250), (wrap64 (x134_3 + 1)), (by first | rfl | (simp; done) | (simp [*]; done)), H', ⟨by have := HK1.out; have := HJ18.out; have := HK3.out; omega⟩, ⟨by (with_reducible repeat (first | apply Kd.N_alloc | apply Kd.N_drewN | apply Kd.N_drew)); exact Kd.N_mono HO_4.out (fun _ hk => ⟨hk.1.1, ⟨hk.1.2.1, ⟨hk.1.2.2, hk.2⟩⟩⟩)⟩, ⟨by (with_reducible repeat (first | apply Kd.R_alloc | apply Kd.R_drewN | apply Kd.R_drew)); exact HO_5.out⟩, ⟨by (with_reducible repeat (first | apply Kd.R_alloc | apply Kd.R_drewN | apply Kd.R_drew)); exact HO_7.out⟩, ⟨by (with_reducible repeat (first | apply Kd.R_alloc | apply Kd.R_drewN | apply Kd.R_drew)); exact Kd.R_mono HO_9.out (fun _ hk => hk.2)⟩, ⟨by (with_reducible repeat (first | apply Kd.R_alloc | apply Kd.R_drewN | apply Kd.R_drew)); exact HO252.out⟩, ⟨by repeat (first | (with_reducible first | exact HB.out | apply below_alloc | apply pw_below_drewN | apply below_drew1) | exact HB.out)⟩⟩
    ·rw [if_neg c108] at H
     have c108b0 : ((rd (rd_L3 t212 (rd t223 (ji96))) 1) == (rd (rd_L3 t212 (rd t223 x134_3)) 1)) = false := beq_eq_false_iff_ne.mpr c108
     have c108b1 : ((rd (rd_L3 t212 (rd t223 (ji96))) 1) != (rd (rd_L3 t212 (rd t223 x134_3)) 1)) = true := bne_iff_ne.mpr c108
     by_cases c116 : x14_3.length < 17592186044416
     rotate_left
     ·rw [if_neg c116] at H
      exact absurd H (by simp)
     rw [if_pos c116] at H
     have LMc116 := Aside0.mk c116
     clear c116
     obtain ⟨y253, hy253⟩ : ∃ y_ : List Int, y_ = (x14_3 ++ [rd t223 x134_3]) := ⟨_, rfl⟩
     replace H : (laws_FnShelves.l1 k3 t211 t212 t215 t216 t219 t220 t223 y253 (t223.length : Int) (wrap64 (x134_3 + 1))) = some r := by first | (rw [hy253]; with_reducible exact H) | (have H2_ := (Option.bind_some _ _).symm.trans H; rw [hy253]; with_reducible exact H2_) | (have H2_ := (Option.bind_some _ _).symm.trans H; with_reducible exact H2_) | with_reducible exact H | (rw [hy253]; exact H) | exact H
     have Ny253 := Aside0.mk hy253
     clear hy253
     have H' := Aside0.mk H
     clear H
     have p237 : 0 ≤ (x134_3 : Int) := of_decide_eq_true (by first | (with_reducible assumption) | assumption)
     have q237 : x134_3 < (t223.length : Int) := of_decide_eq_true (by first | (with_reducible assumption) | assumption)
     obtain ⟨ad237, e237, hx237_0⟩ := Kd.at_int (Kd.R_reads' HO_9.out).2.2 x134_3 p237 q237
     cases e237
     replace p237 := eq_true p237
     replace q237 := eq_true q237
     try go_wp2
     have n0_ := Aside0.mk (Kd.N_drew HO_4.out)
     have n1_ := Aside0.mk (Kd.R_drew HO_5.out)
     have n2_ := Aside0.mk (Kd.R_drew HO_7.out)
     have n3_ := Aside0.mk (Kd.R_drew HO_9.out)
     have n4_ := Aside0.mk (Kd.R_drew HO_14.out)
     have n5_ := Aside0.mk (below_drew1 HB.out)
     clear HO_4
     clear HO_5
     clear HO_7
     clear HO_9
     clear HO_14
     clear HB
     have HO_4 := n0_
     have HO_5 := n1_
     have HO_7 := n2_
     have HO_9 := n3_
     have HO_14 := n4_
     have HB := n5_
     clear n0_ n1_ n2_ n3_ n4_ n5_
     obtain ⟨Ao118, co118, eo118⟩ := Kd.R_slice HO_14.out
     (first | subst eo118 | (injection eo118 with f1_ f2_ f3_; have f4_ := f1_.symm; have f5_ := f3_.symm; clear f1_ f2_ f3_; subst f4_; subst f5_))
     have p239 : 0 ≤ ((ji96) : Int) := of_decide_eq_true (by first | (with_reducible assumption) | assumption)
     have q239 : (ji96) < (t223.length : Int) := of_decide_eq_true (by first | (with_reducible assumption) | assumption)
     obtain ⟨ad239, e239, hx239_0⟩ := Kd.at_int (Kd.R_reads' HO_9.out).2.2 (ji96) p239 q239
     obtain rfl : ad237 = ad239 := (by injection e239)
     replace p239 := eq_true p239
     replace q239 := eq_true q239
     have p240 : 0 ≤ ((rd t223 (ji96)) : Int) := of_decide_eq_true (by first | (with_reducible assumption) | assumption)
     have q240 : (rd t223 (ji96)) < (t212.length : Int) := of_decide_eq_true (by first | (with_reducible assumption) | assumption)
     obtain ⟨ad240, A240_0, c240_0, e240, hx240_0, hl240_0, hi240_0⟩ := at_L3 (Kd.N_reads' HO_4.out).2.2 (rd t223 (ji96)) p240 q240
     cases e240
     obtain ⟨ce240, hce240, hMe240, hcc240⟩ := Kd.N_get HO_4.out [] (rd t223 (ji96)) p240 (by first | exact q240 | exact of_decide_eq_true (by first | (with_reducible assumption) | assumption) | (have e_ := (Kd.N_reads' HO_4.out).1; omega))
     obtain ⟨ua240_0, uc240_0, rfl, ul240_0, ge240_0⟩ := Kd.FK_slice_open hMe240
     have hv240_0 := hcc240 0 _ rfl
     rw [Nat.add_zero, show ((Kd.slice 3 (Kd.int .i64))).sz = 1 from rfl, Nat.mul_one] at hv240_0
     replace hv240_0 := Option.some.inj (hv240_0.symm.trans hx240_0)
     injection hv240_0 with hva_ hvn_ hvc_
     rw [hva_] at ge240_0
     rw [hvc_] at ul240_0
     have HL240_0 := Aside0.mk (show Kd.V (Kd.int .i64) 3 _ w.heap.size _ _ (rd_L3 t212 (rd t223 (ji96))) from Kd.V_mk ul240_0 ge240_0)
     clear hva_ hvn_ hvc_ ge240_0 ul240_0
     clear hcc240 hce240
     have HR240_0 := Aside0.mk hi240_0
     have HC240_0 := Aside0.mk hl240_0
     clear hi240_0 hl240_0
     replace p240 := eq_true p240
     replace q240 := eq_true q240
     have p242 : 0 ≤ ((rd t223 x134_3) : Int) := of_decide_eq_true (by first | (with_reducible assumption) | assumption)
     have q242 : (rd t223 x134_3) < (t212.length : Int) := of_decide_eq_true (by first | (with_reducible assumption) | assumption)
     obtain ⟨ad242, A242_0, c242_0, e242, hx242_0, hl242_0, hi242_0⟩ := at_L3 (Kd.N_reads' HO_4.out).2.2 (rd t223 x134_3) p242 q242
     obtain rfl : ad240 = ad242 := (by injection e242)
     obtain ⟨ce242, hce242, hMe242, hcc242⟩ := Kd.N_get HO_4.out [] (rd t223 x134_3) p242 (by first | exact q242 | exact of_decide_eq_true (by first | (with_reducible assumption) | assumption) | (have e_ := (Kd.N_reads' HO_4.out).1; omega))
     obtain ⟨ua242_0, uc242_0, rfl, ul242_0, ge242_0⟩ := Kd.FK_slice_open hMe242
     have hv242_0 := hcc242 0 _ rfl
     rw [Nat.add_zero, show ((Kd.slice 3 (Kd.int .i64))).sz = 1 from rfl, Nat.mul_one] at hv242_0
     replace hv242_0 := Option.some.inj (hv242_0.symm.trans hx242_0)
     injection hv242_0 with hva_ hvn_ hvc_
     rw [hva_] at ge242_0
     rw [hvc_] at ul242_0
     have HL242_0 := Aside0.mk (show Kd.V (Kd.int .i64) 3 _ w.heap.size _ _ (rd_L3 t212 (rd t223 x134_3)) from Kd.V_mk ul242_0 ge242_0)
     clear hva_ hvn_ hvc_ ge242_0 ul242_0
     clear hcc242 hce242
     have HR242_0 := Aside0.mk hi242_0
     have HC242_0 := Aside0.mk hl242_0
     clear hi242_0 hl242_0
     replace p242 := eq_true p242
     replace q242 := eq_true q242
     have p244 : 0 ≤ ((ji96) : Int) := of_decide_eq_true (by first | (with_reducible assumption) | assumption)
     have q244 : (ji96) < (t223.length : Int) := of_decide_eq_true (by first | (with_reducible assumption) | assumption)
     obtain ⟨ad244, e244, hx244_0⟩ := Kd.at_int (Kd.R_reads' HO_9.out).2.2 (ji96) p244 q244
     obtain rfl : ad237 = ad244 := (by injection e244)
     replace p244 := eq_true p244
     replace q244 := eq_true q244
     have p245 : 0 ≤ ((rd t223 (ji96)) : Int) := of_decide_eq_true (by first | (with_reducible assumption) | assumption)
     have q245 : (rd t223 (ji96)) < (t212.length : Int) := of_decide_eq_true (by first | (with_reducible assumption) | assumption)
     obtain ⟨ad245, A245_0, c245_0, e245, hx245_0, hl245_0, hi245_0⟩ := at_L3 (Kd.N_reads' HO_4.out).2.2 (rd t223 (ji96)) p245 q245
     obtain rfl : ad240 = ad245 := (by injection e245)
     obtain ⟨ce245, hce245, hMe245, hcc245⟩ := Kd.N_get HO_4.out [] (rd t223 (ji96)) p245 (by first | exact q245 | exact of_decide_eq_true (by first | (with_reducible assumption) | assumption) | (have e_ := (Kd.N_reads' HO_4.out).1; omega))
     obtain ⟨ua245_0, uc245_0, rfl, ul245_0, ge245_0⟩ := Kd.FK_slice_open hMe245
     have hv245_0 := hcc245 0 _ rfl
     rw [Nat.add_zero, show ((Kd.slice 3 (Kd.int .i64))).sz = 1 from rfl, Nat.mul_one] at hv245_0
     replace hv245_0 := Option.some.inj (hv245_0.symm.trans hx245_0)
     injection hv245_0 with hva_ hvn_ hvc_
     rw [hva_] at ge245_0
     rw [hvc_] at ul245_0
     have HL245_0 := Aside0.mk (show Kd.V (Kd.int .i64) 3 _ w.heap.size _ _ (rd_L3 t212 (rd t223 (ji96))) from Kd.V_mk ul245_0 ge245_0)
     clear hva_ hvn_ hvc_ ge245_0 ul245_0
     clear hcc245 hce245
     have HR245_0 := Aside0.mk hi245_0
     have HC245_0 := Aside0.mk hl245_0
     clear hi245_0 hl245_0
     replace p245 := eq_true p245
     replace q245 := eq_true q245
     have ea_ := Option.some.inj (hx240_0.symm.trans hx245_0)
     injection ea_ with ea_ en_ ec_
     subst ea_
     subst ec_
     clear en_
     have p247 : 0 ≤ ((rd t223 x134_3) : Int) := of_decide_eq_true (by first | (with_reducible assumption) | assumption)
     have q247 : (rd t223 x134_3) < (t212.length : Int) := of_decide_eq_true (by first | (with_reducible assumption) | assumption)
     obtain ⟨ad247, A247_0, c247_0, e247, hx247_0, hl247_0, hi247_0⟩ := at_L3 (Kd.N_reads' HO_4.out).2.2 (rd t223 x134_3) p247 q247
     obtain rfl : ad240 = ad247 := (by injection e247)
     obtain ⟨ce247, hce247, hMe247, hcc247⟩ := Kd.N_get HO_4.out [] (rd t223 x134_3) p247 (by first | exact q247 | exact of_decide_eq_true (by first | (with_reducible assumption) | assumption) | (have e_ := (Kd.N_reads' HO_4.out).1; omega))
     obtain ⟨ua247_0, uc247_0, rfl, ul247_0, ge247_0⟩ := Kd.FK_slice_open hMe247
     have hv247_0 := hcc247 0 _ rfl
     rw [Nat.add_zero, show ((Kd.slice 3 (Kd.int .i64))).sz = 1 from rfl, Nat.mul_one] at hv247_0
     replace hv247_0 := Option.some.inj (hv247_0.symm.trans hx247_0)
     injection hv247_0 with hva_ hvn_ hvc_
     rw [hva_] at ge247_0
     rw [hvc_] at ul247_0
     have HL247_0 := Aside0.mk (show Kd.V (Kd.int .i64) 3 _ w.heap.size _ _ (rd_L3 t212 (rd t223 x134_3)) from Kd.V_mk ul247_0 ge247_0)
     clear hva_ hvn_ hvc_ ge247_0 ul247_0
     clear hcc247 hce247
     have HR247_0 := Aside0.mk hi247_0
     have HC247_0 := Aside0.mk hl247_0
     clear hi247_0 hl247_0
     replace p247 := eq_true p247
     replace q247 := eq_true q247
     have ea_ := Option.some.inj (hx242_0.symm.trans hx247_0)
     injection ea_ with ea_ en_ ec_
     subst ea_
     subst ec_
     clear en_
     have p241 : 0 ≤ (1 : Int) := (by omega)
     have q241 : 1 < ((rd_L3 t212 (rd t223 (ji96))).length : Int) := of_decide_eq_true (by first | (with_reducible assumption) | assumption)
     obtain ⟨ad241, e241, hx241_0⟩ := Kd.at_int HR240_0.out 1 p241 q241
     cases e241
     (try simp only [show (1 : Int).toNat = 1 from rfl, Nat.reduceMul, Nat.reduceEqDiff, Go.Addr.add, ↓reduceIte] at hx241_0)
     have qi241 : (1 < (rd_L3 t212 (rd t223 (ji96))).length) = True := eq_true (by omega)
     (try rw [show ((1 : Int)).toNat = 1 from rfl] at hx241_0)
     replace p241 := eq_true p241
     replace q241 := eq_true q241
     have p243 : 0 ≤ (1 : Int) := (by omega)
     have q243 : 1 < ((rd_L3 t212 (rd t223 x134_3)).length : Int) := of_decide_eq_true (by first | (with_reducible assumption) | assumption)
     obtain ⟨ad243, e243, hx243_0⟩ := Kd.at_int HR242_0.out 1 p243 q243
     cases e243
     (try simp only [show (1 : Int).toNat = 1 from rfl, Nat.reduceMul, Nat.reduceEqDiff, Go.Addr.add, ↓reduceIte] at hx243_0)
     have qi243 : (1 < (rd_L3 t212 (rd t223 x134_3)).length) = True := eq_true (by omega)
     (try rw [show ((1 : Int)).toNat = 1 from rfl] at hx243_0)
     replace p243 := eq_true p243
     replace q243 := eq_true q243
     have p246 : 0 ≤ (1 : Int) := (by omega)
     have q246 : 1 < ((rd_L3 t212 (rd t223 (ji96))).length : Int) := of_decide_eq_true (by first | (with_reducible assumption) | assumption)
     obtain ⟨ad246, e246, hx246_0⟩ := Kd.at_int HR245_0.out 1 p246 q246
     obtain rfl : ad241 = ad246 := (by injection e246)
     (try simp only [show (1 : Int).toNat = 1 from rfl, Nat.reduceMul, Nat.reduceEqDiff, Go.Addr.add, ↓reduceIte] at hx246_0)
     have qi246 : (1 < (rd_L3 t212 (rd t223 (ji96))).length) = True := eq_true (by omega)
     (try rw [show ((1 : Int)).toNat = 1 from rfl] at hx246_0)
     replace p246 := eq_true p246
     replace q246 := eq_true q246
     have p248 : 0 ≤ (1 : Int) := (by omega)
     have q248 : 1 < ((rd_L3 t212 (rd t223 x134_3)).length : Int) := of_decide_eq_true (by first | (with_reducible assumption) | assumption)
     obtain ⟨ad248, e248, hx248_0⟩ := Kd.at_int HR247_0.out 1 p248 q248
     obtain rfl : ad243 = ad248 := (by injection e248)
     (try simp only [show (1 : Int).toNat = 1 from rfl, Nat.reduceMul, Nat.reduceEqDiff, Go.Addr.add, ↓reduceIte] at hx248_0)
     have qi248 : (1 < (rd_L3 t212 (rd t223 x134_3)).length) = True := eq_true (by omega)
     (try rw [show ((1 : Int)).toNat = 1 from rfl] at hx248_0)
     replace p248 := eq_true p248
     replace q248 := eq_true q248
     as_aux_lemma =>
      refine start_ (n := 64) (S := fun w' => w'.cell? (ad237.add ((ji96)).toNat) = some (.int .i64 (rd t223 (ji96))) ∧ w'.cell? (ad240.add ((rd t223 (ji96))).toNat) = some (.slice (some ad241) (rd_L3 t212 (rd t223 (ji96))).length c240_0) ∧ w'.cell? ⟨ad241.block, ad241.off + 1, none⟩ = some (.int .i64 (rd (rd_L3 t212 (rd t223 (ji96))) 1)) ∧ w'.cell? (ad240.add ((rd t223 x134_3)).toNat) = some (.slice (some ad243) (rd_L3 t212 (rd t223 x134_3)).length c242_0) ∧ w'.cell? ⟨ad243.block, ad243.off + 1, none⟩ = some (.int .i64 (rd (rd_L3 t212 (rd t223 x134_3)) 1)) ∧ w'.cell? (ad237.add ((ji96)).toNat) = some (.int .i64 (rd t223 (ji96))) ∧ w'.cell? (ad240.add ((rd t223 (ji96))).toNat) = some (.slice (some ad241) (rd_L3 t212 (rd t223 (ji96))).length c240_0) ∧ w'.cell? ⟨ad241.block, ad241.off + 1, none⟩ = some (.int .i64 (rd (rd_L3 t212 (rd t223 (ji96))) 1)) ∧ w'.cell? (ad240.add ((rd t223 x134_3)).toNat) = some (.slice (some ad243) (rd_L3 t212 (rd t223 x134_3)).length c242_0) ∧ w'.cell? ⟨ad243.block, ad243.off + 1, none⟩ = some (.int .i64 (rd (rd_L3 t212 (rd t223 x134_3)) 1))) (ds := []) (qC_ 64 0) (by kernel_rfl) rfl rfl ⟨hx239_0, hx240_0, hx241_0, hx242_0, hx243_0, hx244_0, hx245_0, hx246_0, hx247_0, hx248_0⟩ (fun hHeld => ?_); refine with_tabW laws_FnShelves.tab20 laws_FnShelves.bits20 (fun HT_ HW_ => ?_)
      generalize wr.drew = w117 at HO_4 HO_5 HO_7 HO_9 HO_14 HB HL240_0 HL242_0 HL245_0 HL247_0 HR240_0 HR242_0 HR245_0 HR247_0 hx239_0 hx240_0 hx242_0 hx244_0 hx245_0 hx247_0 hx241_0 hx243_0 hx246_0 hx248_0 hHeld ⊢
      iterate 11 (first | (refine rz_ HT_ ?zy ?zp ?_ (v := ?_) (a' := ?_); (case zy => intro w'; go_simp; with_reducible rfl); (case zp => simp only [Act.put, List.setIfInBounds_toArray, List.set_cons_zero, List.set_cons_succ, i64_w, i32_w]; rfl)))
      refine one_ (i := 11) (N := some 150) (qC_ 64 12) rfl rfl (one_of HT_.out (by kernel_rfl)) (by decide) (fun K hK => ?_)
      refine goes_ Try.func24 (by kernel_rfl) rfl #[.slice Ao118 x14_3.length co118, .int .i64 (rd t223 x134_3)] (by rfl) rfl rfl (by (try simp only [List.map_toArray, List.map_cons, List.map_nil]); first | done | rfl | (simp only [List.length_drop, List.length_take]; rfl)) ?_
      with_reducible refine (laws_has.calls k3 _ _ x14_3 (rd t223 x134_3) false _ ?side1 ?side2 A91.out).mono ?_
      (case side1 => repeat (first | exact (Kd.R_reads' HO_14.out).2.2 | (with_reducible refine Kd.C_alloc ?_ _) | (with_reducible refine Kd.C_drewN ?_ _) | (with_reducible refine Kd.C_drew ?_)))
      (case side2 => exact (Kd.R_reads' HO_14.out).2.1)
      rintro e w' ⟨rfl, ⟨nd, rfl⟩⟩
      refine ⟨_, rfl, ?_⟩
      refine hK.out _ _ ⟨hHeld.1, hHeld.2.1, hHeld.2.2.1, hHeld.2.2.2.1, hHeld.2.2.2.2.1, hHeld.2.2.2.2.2.1, hHeld.2.2.2.2.2.2.1, hHeld.2.2.2.2.2.2.2.1, hHeld.2.2.2.2.2.2.2.2.1, hHeld.2.2.2.2.2.2.2.2.2⟩ (fun hHeld => ?_)
      clear hK K
      refine norm_ (a' := ?_) ?_ ?_
      rotate_left
      ·show Act.put _ (some 150) _ = _
       simp only [Act.put, List.setIfInBounds_toArray, List.set_cons_zero, List.set_cons_succ, i64_w, i32_w]
       rfl
      iterate 52 (first | (refine rz_ HT_ ?zy ?zp ?_ (v := ?_) (a' := ?_); (case zy => intro w'; go_simp; with_reducible rfl); (case zp => simp only [Act.put, List.setIfInBounds_toArray, List.set_cons_zero, List.set_cons_succ, i64_w, i32_w]; rfl)) | (refine ru_ HT_ ?zp ?_ (a' := ?_); (case zp => simp only [Act.put, List.setIfInBounds_toArray, List.set_cons_zero, List.set_cons_succ, i64_w, i32_w]; rfl)) | (refine rt_ HT_ HW_ hHeld ?zy ?zp ?_ (v := ?_) (a' := ?_); (case zy => rintro w' ⟨s0, s1, s2, s3, s4, s5, s6, s7, s8, s9⟩; go_simp; with_reducible rfl); (case zp => simp only [Act.put, List.setIfInBounds_toArray, List.set_cons_zero, List.set_cons_succ, i64_w, i32_w]; rfl)))
      refine done_ (done_of HT_.out (by kernel_rfl)) ?_
      try go_wp2_with (first | ((with_reducible refine gate_builtin (b := .append) (xs := #[.tmp 203, .tmp 205]) rfl ?_); (try (refine gate_guard (by rfl) ?_; dsimp only)); at_builtin; refine Kd.R_append (Kd.int .i64) (w0 := w) w.heap.size rfl (.tmp 203) (.tmp 205) 27 3 (.int .i64 0) 8 rfl Try.underlying27 info3 rfl (by decide) (by omega) (.slice Ao118 x14_3.length co118) x14_3 (rd t223 x134_3) [.int .i64 (rd t223 x134_3)] (fun k_ => some k_ ≠ (.slice (some ad237) t223.length co83 : Value).ownBlock) (fun _ => False) rfl rfl ?aP (fun _ hk => hk.elim) ?aF ?aO ?aB ?aS ?aL ?_; (case aP => exact rfl); (case aB => exact (by repeat (first | (with_reducible first | exact HB.out | apply below_alloc | apply pw_below_drewN | apply below_drew1) | exact HB.out))); (case aF => exact (fun k_ hk => Kd.fresh' (Kd.R_lt (by (with_reducible repeat (first | apply Kd.R_alloc | apply Kd.R_drewN | apply Kd.R_drew)); exact HO_9.out)) k_ hk)); (case aO => exact (by (with_reducible repeat (first | apply Kd.R_alloc | apply Kd.R_drewN | apply Kd.R_drew)); exact HO_14.out)); (case aS => exact (below_size (by repeat (first | (with_reducible first | exact HB.out | apply below_alloc | apply pw_below_drewN | apply below_drew1) | exact HB.out)))); (case aL => have := LMc116.out; omega); intro v254 w119 ho hb hg hat; rw [← Ny253.out] at ho; have n0_ := Aside0.mk (Kd.N_afterv (ok := (fun k_ => some k_ ≠ (v217 : Value).ownBlock ∧ some k_ ≠ (v221 : Value).ownBlock ∧ some k_ ≠ (.slice (some ad237) t223.length co83 : Value).ownBlock)) (by (with_reducible repeat (first | apply Kd.N_alloc | apply Kd.N_drewN | apply Kd.N_drew)); exact Kd.N_mono HO_4.out (fun _ hk => ⟨⟨hk.1, ⟨hk.2.1, hk.2.2.1⟩⟩, hk.2.2.2⟩)) hg hat); have n1_ := Aside0.mk (Kd.R_over' (by (with_reducible repeat (first | apply Kd.R_alloc | apply Kd.R_drewN | apply Kd.R_drew)); exact HO_5.out) (Kd.R_typed (by (with_reducible repeat (first | apply Kd.R_alloc | apply Kd.R_drewN | apply Kd.R_drew)); exact HO_14.out)) (by decide) hg); have n2_ := Aside0.mk (Kd.R_over' (by (with_reducible repeat (first | apply Kd.R_alloc | apply Kd.R_drewN | apply Kd.R_drew)); exact HO_7.out) (Kd.R_typed (by (with_reducible repeat (first | apply Kd.R_alloc | apply Kd.R_drewN | apply Kd.R_drew)); exact HO_14.out)) (by decide) hg); have n3_ := Aside0.mk (Kd.R_after (ok := (fun _ => True)) (by (with_reducible repeat (first | apply Kd.R_alloc | apply Kd.R_drewN | apply Kd.R_drew)); exact Kd.R_mono HO_9.out (fun _ hk => ⟨trivial, hk⟩)) hg hat); have n4_ := Aside0.mk (Kd.V_afterv (ok := (fun k_ => some k_ ≠ (.slice (some ad240) t212.length co9 : Value).ownBlock ∧ some k_ ≠ (v217 : Value).ownBlock ∧ some k_ ≠ (v221 : Value).ownBlock ∧ some k_ ≠ (.slice (some ad237) t223.length co83 : Value).ownBlock)) (by (with_reducible repeat (first | apply Kd.V_alloc | apply Kd.V_drewN | apply Kd.V_drew)); exact Kd.V_mono HL240_0.out (fun _ hk => ⟨⟨hk.2, ⟨hk.1.1, ⟨hk.1.2.1, hk.1.2.2.1⟩⟩⟩, hk.1.2.2.2⟩)) hg hat); have n5_ := Aside0.mk (Kd.V_afterv (ok := (fun k_ => some k_ ≠ (.slice (some ad240) t212.length co9 : Value).ownBlock ∧ some k_ ≠ (v217 : Value).ownBlock ∧ some k_ ≠ (v221 : Value).ownBlock ∧ some k_ ≠ (.slice (some ad237) t223.length co83 : Value).ownBlock)) (by (with_reducible repeat (first | apply Kd.V_alloc | apply Kd.V_drewN | apply Kd.V_drew)); exact Kd.V_mono HL242_0.out (fun _ hk => ⟨⟨hk.2, ⟨hk.1.1, ⟨hk.1.2.1, hk.1.2.2.1⟩⟩⟩, hk.1.2.2.2⟩)) hg hat); have n6_ := Aside0.mk (Kd.V_afterv (ok := (fun k_ => some k_ ≠ (.slice (some ad240) t212.length co9 : Value).ownBlock ∧ some k_ ≠ (v217 : Value).ownBlock ∧ some k_ ≠ (v221 : Value).ownBlock ∧ some k_ ≠ (.slice (some ad237) t223.length co83 : Value).ownBlock)) (by (with_reducible repeat (first | apply Kd.V_alloc | apply Kd.V_drewN | apply Kd.V_drew)); exact Kd.V_mono HL245_0.out (fun _ hk => ⟨⟨hk.2, ⟨hk.1.1, ⟨hk.1.2.1, hk.1.2.2.1⟩⟩⟩, hk.1.2.2.2⟩)) hg hat); have n7_ := Aside0.mk (Kd.V_afterv (ok := (fun k_ => some k_ ≠ (.slice (some ad240) t212.length co9 : Value).ownBlock ∧ some k_ ≠ (v217 : Value).ownBlock ∧ some k_ ≠ (v221 : Value).ownBlock ∧ some k_ ≠ (.slice (some ad237) t223.length co83 : Value).ownBlock)) (by (with_reducible repeat (first | apply Kd.V_alloc | apply Kd.V_drewN | apply Kd.V_drew)); exact Kd.V_mono HL247_0.out (fun _ hk => ⟨⟨hk.2, ⟨hk.1.1, ⟨hk.1.2.1, hk.1.2.2.1⟩⟩⟩, hk.1.2.2.2⟩)) hg hat); have n8_ := Aside0.mk (hb); have n9_ := Aside0.mk (ho); clear HO_4; clear HO_5; clear HO_7; clear HO_9; clear HL240_0; clear HL242_0; clear HL245_0; clear HL247_0; clear HB; clear HO_14; have HO_4 := n0_; have HO_5 := n1_; have HO_7 := n2_; have HO_9 := n3_; have HL240_0 := n4_; have HL242_0 := n5_; have HL245_0 := n6_; have HL247_0 := n7_; have HB := n8_; have HO255 := n9_; clear n0_ n1_ n2_ n3_ n4_ n5_ n6_ n7_ n8_ n9_; clear ho hb hg hat))
      go_roundg k3
      case measure => have := HK1.out; have := HJ18.out; have := HK3.out; omega
      case rel => exact ⟨(y253), (wrap64 (x134_3 + 1)), (by first | rfl | (simp; done) | (simp [*]; done)), H', ⟨by have := HK1.out; have := HJ18.out; have := HK3.out; omega⟩, ⟨by (with_reducible repeat (first | apply Kd.N_alloc | apply Kd.N_drewN | apply Kd.N_drew)); exact Kd.N_mono HO_4.out (fun _ hk => ⟨hk.1.1, ⟨hk.1.2.1, ⟨hk.1.2.2, hk.2⟩⟩⟩)⟩, ⟨by (with_reducible repeat (first | apply Kd.R_alloc | apply Kd.R_drewN | apply Kd.R_drew)); exact HO_5.out⟩, ⟨by (with_reducible repeat (first | apply Kd.R_alloc | apply Kd.R_drewN | apply Kd.R_drew)); exact HO_7.out⟩, ⟨by (with_reducible repeat (first | apply Kd.R_alloc | apply Kd.R_drewN | apply Kd.R_drew)); exact Kd.R_mono HO_9.out (fun _ hk => hk.2)⟩, ⟨by (with_reducible repeat (first | apply Kd.R_alloc | apply Kd.R_drewN | apply Kd.R_drew)); exact HO255.out⟩, ⟨by repeat (first | (with_reducible first | exact HB.out | apply below_alloc | apply pw_below_drewN | apply below_drew1) | exact HB.out)⟩⟩
   ·rw [if_neg c95] at H
    have c95b0 : decide (0 < x134_3) = false := decide_eq_false c95
    clear c95
    by_cases c120 : x14_3.length < 17592186044416
    rotate_left
    ·rw [if_neg c120] at H
     exact absurd H (by simp)
    rw [if_pos c120] at H
    have LMc120 := Aside0.mk c120
    clear c120
    obtain ⟨y256, hy256⟩ : ∃ y_ : List Int, y_ = (x14_3 ++ [rd t223 x134_3]) := ⟨_, rfl⟩
    replace H : (laws_FnShelves.l1 k3 t211 t212 t215 t216 t219 t220 t223 y256 (t223.length : Int) (wrap64 (x134_3 + 1))) = some r := by first | (rw [hy256]; with_reducible exact H) | (have H2_ := (Option.bind_some _ _).symm.trans H; rw [hy256]; with_reducible exact H2_) | (have H2_ := (Option.bind_some _ _).symm.trans H; with_reducible exact H2_) | with_reducible exact H | (rw [hy256]; exact H) | exact H
    have Ny256 := Aside0.mk hy256
    clear hy256
    have H' := Aside0.mk H
    clear H
    have p237 : 0 ≤ (x134_3 : Int) := of_decide_eq_true (by first | (with_reducible assumption) | assumption)
    have q237 : x134_3 < (t223.length : Int) := of_decide_eq_true (by first | (with_reducible assumption) | assumption)
    obtain ⟨ad237, e237, hx237_0⟩ := Kd.at_int (Kd.R_reads' HO_9.out).2.2 x134_3 p237 q237
    cases e237
    replace p237 := eq_true p237
    replace q237 := eq_true q237
    try go_wp2
    have n0_ := Aside0.mk (Kd.N_drew HO_4.out)
    have n1_ := Aside0.mk (Kd.R_drew HO_5.out)
    have n2_ := Aside0.mk (Kd.R_drew HO_7.out)
    have n3_ := Aside0.mk (Kd.R_drew HO_9.out)
    have n4_ := Aside0.mk (Kd.R_drew HO_14.out)
    have n5_ := Aside0.mk (below_drew1 HB.out)
    clear HO_4
    clear HO_5
    clear HO_7
    clear HO_9
    clear HO_14
    clear HB
    have HO_4 := n0_
    have HO_5 := n1_
    have HO_7 := n2_
    have HO_9 := n3_
    have HO_14 := n4_
    have HB := n5_
    clear n0_ n1_ n2_ n3_ n4_ n5_
    obtain ⟨Ao122, co122, eo122⟩ := Kd.R_slice HO_14.out
    (first | subst eo122 | (injection eo122 with f1_ f2_ f3_; have f4_ := f1_.symm; have f5_ := f3_.symm; clear f1_ f2_ f3_; subst f4_; subst f5_))
    as_aux_lemma =>
     refine start_ (n := 64) (S := fun w' => True) (ds := []) (qC_ 64 0) (by kernel_rfl) rfl rfl trivial (fun hHeld => ?_); refine with_tabW laws_FnShelves.tab20 laws_FnShelves.bits20 (fun HT_ HW_ => ?_)
     generalize wr.drew = w121 at HO_4 HO_5 HO_7 HO_9 HO_14 HB hHeld ⊢
     iterate 11 (first | (refine rz_ HT_ ?zy ?zp ?_ (v := ?_) (a' := ?_); (case zy => intro w'; go_simp; with_reducible rfl); (case zp => simp only [Act.put, List.setIfInBounds_toArray, List.set_cons_zero, List.set_cons_succ, i64_w, i32_w]; rfl)))
     refine one_ (i := 11) (N := some 150) (qC_ 64 12) rfl rfl (one_of HT_.out (by kernel_rfl)) (by decide) (fun K hK => ?_)
     refine goes_ Try.func24 (by kernel_rfl) rfl #[.slice Ao122 x14_3.length co122, .int .i64 (rd t223 x134_3)] (by rfl) rfl rfl (by (try simp only [List.map_toArray, List.map_cons, List.map_nil]); first | done | rfl | (simp only [List.length_drop, List.length_take]; rfl)) ?_
     with_reducible refine (laws_has.calls k3 _ _ x14_3 (rd t223 x134_3) false _ ?side1 ?side2 A91.out).mono ?_
     (case side1 => repeat (first | exact (Kd.R_reads' HO_14.out).2.2 | (with_reducible refine Kd.C_alloc ?_ _) | (with_reducible refine Kd.C_drewN ?_ _) | (with_reducible refine Kd.C_drew ?_)))
     (case side2 => exact (Kd.R_reads' HO_14.out).2.1)
     rintro e w' ⟨rfl, ⟨nd, rfl⟩⟩
     refine ⟨_, rfl, ?_⟩
     refine hK.out _ _ trivial (fun hHeld => ?_)
     clear hK K
     refine norm_ (a' := ?_) ?_ ?_
     rotate_left
     ·show Act.put _ (some 150) _ = _
      simp only [Act.put, List.setIfInBounds_toArray, List.set_cons_zero, List.set_cons_succ, i64_w, i32_w]
      rfl
     iterate 52 (first | (refine rz_ HT_ ?zy ?zp ?_ (v := ?_) (a' := ?_); (case zy => intro w'; go_simp; with_reducible rfl); (case zp => simp only [Act.put, List.setIfInBounds_toArray, List.set_cons_zero, List.set_cons_succ, i64_w, i32_w]; rfl)) | (refine ru_ HT_ ?zp ?_ (a' := ?_); (case zp => simp only [Act.put, List.setIfInBounds_toArray, List.set_cons_zero, List.set_cons_succ, i64_w, i32_w]; rfl)))
     refine done_ (done_of HT_.out (by kernel_rfl)) ?_
     try go_wp2_with (first | ((with_reducible refine gate_builtin (b := .append) (xs := #[.tmp 203, .tmp 205]) rfl ?_); (try (refine gate_guard (by rfl) ?_; dsimp only)); at_builtin; refine Kd.R_append (Kd.int .i64) (w0 := w) w.heap.size rfl (.tmp 203) (.tmp 205) 27 3 (.int .i64 0) 8 rfl Try.underlying27 info3 rfl (by decide) (by omega) (.slice Ao122 x14_3.length co122) x14_3 (rd t223 x134_3) [.int .i64 (rd t223 x134_3)] (fun k_ => some k_ ≠ (.slice (some ad237) t223.length co83 : Value).ownBlock) (fun _ => False) rfl rfl ?aP (fun _ hk => hk.elim) ?aF ?aO ?aB ?aS ?aL ?_; (case aP => exact rfl); (case aB => exact (by repeat (first | (with_reducible first | exact HB.out | apply below_alloc | apply pw_below_drewN | apply below_drew1) | exact HB.out))); (case aF => exact (fun k_ hk => Kd.fresh' (Kd.R_lt (by (with_reducible repeat (first | apply Kd.R_alloc | apply Kd.R_drewN | apply Kd.R_drew)); exact HO_9.out)) k_ hk)); (case aO => exact (by (with_reducible repeat (first | apply Kd.R_alloc | apply Kd.R_drewN | apply Kd.R_drew)); exact HO_14.out)); (case aS => exact (below_size (by repeat (first | (with_reducible first | exact HB.out | apply below_alloc | apply pw_below_drewN | apply below_drew1) | exact HB.out)))); (case aL => have := LMc120.out; omega); intro v257 w123 ho hb hg hat; rw [← Ny256.out] at ho; have n0_ := Aside0.mk (Kd.N_afterv (ok := (fun k_ => some k_ ≠ (v217 : Value).ownBlock ∧ some k_ ≠ (v221 : Value).ownBlock ∧ some k_ ≠ (.slice (some ad237) t223.length co83 : Value).ownBlock)) (by (with_reducible repeat (first | apply Kd.N_alloc | apply Kd.N_drewN | apply Kd.N_drew)); exact Kd.N_mono HO_4.out (fun _ hk => ⟨⟨hk.1, ⟨hk.2.1, hk.2.2.1⟩⟩, hk.2.2.2⟩)) hg hat); have n1_ := Aside0.mk (Kd.R_over' (by (with_reducible repeat (first | apply Kd.R_alloc | apply Kd.R_drewN | apply Kd.R_drew)); exact HO_5.out) (Kd.R_typed (by (with_reducible repeat (first | apply Kd.R_alloc | apply Kd.R_drewN | apply Kd.R_drew)); exact HO_14.out)) (by decide) hg); have n2_ := Aside0.mk (Kd.R_over' (by (with_reducible repeat (first | apply Kd.R_alloc | apply Kd.R_drewN | apply Kd.R_drew)); exact HO_7.out) (Kd.R_typed (by (with_reducible repeat (first | apply Kd.R_alloc | apply Kd.R_drewN | apply Kd.R_drew)); exact HO_14.out)) (by decide) hg); have n3_ := Aside0.mk (Kd.R_after (ok := (fun _ => True)) (by (with_reducible repeat (first | apply Kd.R_alloc | apply Kd.R_drewN | apply Kd.R_drew)); exact Kd.R_mono HO_9.out (fun _ hk => ⟨trivial, hk⟩)) hg hat); have n4_ := Aside0.mk (hb); have n5_ := Aside0.mk (ho); clear HO_4; clear HO_5; clear HO_7; clear HO_9; clear HB; clear HO_14; have HO_4 := n0_; have HO_5 := n1_; have HO_7 := n2_; have HO_9 := n3_; have HB := n4_; have HO258 := n5_; clear n0_ n1_ n2_ n3_ n4_ n5_; clear ho hb hg hat))
     go_roundg k3
     case measure => have := HK1.out; have := HJ18.out; have := HK3.out; omega
     case rel => exact ⟨(y256), (wrap64 (x134_3 + 1)), (by first | rfl | (simp; done) | (simp [*]; done)), H', ⟨by have := HK1.out; have := HJ18.out; have := HK3.out; omega⟩, ⟨by (with_reducible repeat (first | apply Kd.N_alloc | apply Kd.N_drewN | apply Kd.N_drew)); exact Kd.N_mono HO_4.out (fun _ hk => ⟨hk.1.1, ⟨hk.1.2.1, ⟨hk.1.2.2, hk.2⟩⟩⟩)⟩, ⟨by (with_reducible repeat (first | apply Kd.R_alloc | apply Kd.R_drewN | apply Kd.R_drew)); exact HO_5.out⟩, ⟨by (with_reducible repeat (first | apply Kd.R_alloc | apply Kd.R_drewN | apply Kd.R_drew)); exact HO_7.out⟩, ⟨by (with_reducible repeat (first | apply Kd.R_alloc | apply Kd.R_drewN | apply Kd.R_drew)); exact Kd.R_mono HO_9.out (fun _ hk => hk.2)⟩, ⟨by (with_reducible repeat (first | apply Kd.R_alloc | apply Kd.R_drewN | apply Kd.R_drew)); exact HO258.out⟩, ⟨by repeat (first | (with_reducible first | exact HB.out | apply below_alloc | apply pw_below_drewN | apply below_drew1) | exact HB.out)⟩⟩
  ·rw [if_neg c84] at H
   have c84b0 : decide (x134_3 < (t223.length : Int)) = false := decide_eq_false c84
   clear c84
   have H' := Aside0.mk H
   clear H
   go_wp2
   go_loopg [210] k3 (fun kq v210 w' => ∃ (x210_4 : Int), v210 = .int .i64 x210_4 ∧ Aside0 (laws_FnShelves.l2 kq t211 t212 t215 t216 t219 t220 (t212.length : Int) x210_4 = some r) ∧ Aside0 (kq ≤ k3) ∧ Aside0 (Kd.N (Kd.slice 3 (Kd.int .i64)) 27 w' w.heap.size (fun k_ => some k_ ≠ (v217 : Value).ownBlock ∧ some k_ ≠ (v221 : Value).ownBlock) (.slice Ao9 t212.length co9) t212) ∧ Aside0 (Kd.R k44 44 w' w.heap.size (fun k_ => some k_ ≠ (v221 : Value).ownBlock) v217 t215) ∧ Aside0 (Kd.R k44 44 w' w.heap.size (fun k_ => some k_ ≠ (v217 : Value).ownBlock) v221 t219) ∧ Aside0 (Below w.heap.size w w'))
   case atStart => exact ⟨(0), (by first | rfl | (simp; done) | (simp [*]; done)), H', ⟨Nat.le_refl _⟩, ⟨by (with_reducible repeat (first | apply Kd.N_alloc | apply Kd.N_drewN | apply Kd.N_drew)); exact Kd.N_mono HO_4.out (fun _ hk => ⟨hk.1, hk.2.1⟩)⟩, ⟨by (with_reducible repeat (first | apply Kd.R_alloc | apply Kd.R_drewN | apply Kd.R_drew)); exact HO_5.out⟩, ⟨by (with_reducible repeat (first | apply Kd.R_alloc | apply Kd.R_drewN | apply Kd.R_drew)); exact HO_7.out⟩, ⟨by repeat (first | (with_reducible first | exact HB.out | apply below_alloc | apply pw_below_drewN | apply below_drew1) | exact HB.out)⟩⟩
   case round =>
    rename_i ia1_ ia2_ ia3_ ia4_ ia5_ ia6_ ia7_ ia8_ ia9_ ia10_ ia11_ ia12_ ia13_ ia14_ ia15_ ia16_ ia17_ ia18_ ia19_ ia20_ ia21_ ia22_ ia23_ ia24_ ia25_ ia26_ ia27_ ia28_ ia29_ ia30_ ia31_ ia32_ ia33_ ia34_ ia35_ ia36_ ia37_ ia38_ ia39_ ia40_ ia41_ ia42_ ia43_ ia44_ ia45_ ia46_ ia47_ ia48_ ia49_ ia50_ ia51_ ia52_ ia53_ ia54_ ia55_ ia56_ ia57_ ia58_ ia59_ ia60_ ia61_ ia62_ ia63_ ia64_ ia65_ ia66_ ia67_ ia68_ ia69_ ia70_ ia71_ ia72_ ia73_ ia74_ ia75_ ia76_ ia77_ ia78_ ia79_ ia80_ ia81_ ia82_ ia83_ ia84_ ia85_ ia86_ ia87_ ia88_ ia89_ ia90_ ia91_ ia92_ ia93_ ia94_ ia95_ ia96_ ia97_ ia98_ ia99_ ia100_ ia101_ ia102_ ia103_ ia104_ ia105_ ia106_ ia107_ ia108_ ia109_ ia110_ ia111_ ia112_ ia113_ ia114_ ia115_ ia116_ ia117_ ia118_ ia119_ ia120_ ia121_ ia122_ ia123_ ia124_ ia125_ ia126_ ia127_ ia128_ ia129_ ia130_ ia131_ ia132_ ia133_ ia134_ ia135_ ia136_ ia137_ ia138_ ia139_ ia140_ ia141_ ia142_ ia143_ ia144_ ia145_ ia146_ ia147_ ia148_ ia149_ ia150_ ia151_ ia152_ ia153_ ia154_ ia155_ ia156_ ia157_ ia158_ ia159_ ia160_ ia161_ ia162_ ia163_ ia164_ ia165_ ia166_ ia167_ ia168_ ia169_ ia170_ ia171_ ia172_ ia173_ ia174_ ia175_ ia176_ ia177_ ia178_ ia179_ ia180_ ia181_ ia182_ ia183_ ia184_ ia185_ ia186_ ia187_ ia188_ ia189_ ia190_ ia191_ ia192_ ia193_ ia194_ ia195_ ia196_ ia197_ ia198_ ia199_ ia200_ ia201_ ia202_ ia203_ ia204_
    revert k A0 c0 l0 r w HT hu44 HR0 HC0 t211 t212 A3 t215 t216 A4 t219 t220 A5 t223 A6 t226 A7 ia1_ w8 Ao9 co9 w10 v217 w11 v221 w12 w13 HO218 HO222 ia2_ ia3_ ia4_ u13 ia5_ ia6_ ia7_ ia8_ ia9_ ia10_ ia11_ ia12_ ia13_ ia14_ ia15_ x11_1 x50_1 ia16_ ia17_ ia18_ k1 ia19_ HK1 ia20_ ia21_ wc u23 u24 u25 u26 u27 u28 u29 u30 u31 u32 u33 u34 u35 u36 u37 u38 u39 u40 u41 u42 u43 u44 u45 u46 u47 u51 u52 u53 u54 u55 u56 u57 u58 u59 u60 u61 u62 u63 u64 u65 u66 u67 u68 u69 u70 u71 u72 u73 u74 u75 u76 u77 u78 u79 u80 u81 u82 u83 u84 u85 u86 u87 u88 u89 u90 u91 u92 u93 u94 u95 u96 u97 u98 u99 u100 u101 u102 u103 u104 u105 u106 u107 u108 u109 u110 u111 u112 u113 u114 u115 u116 u117 u118 u119 u120 u121 u122 u123 u124 u125 u126 u127 u128 u129 u131 ia22_ ia23_ ia24_ ia25_ ia26_ ia27_ ia28_ ia29_ ia30_ ia31_ ia32_ ia33_ ia34_ ia35_ ia36_ ia37_ ia38_ ia39_ ia40_ ia41_ ia42_ ia43_ ia44_ ia45_ ia46_ ia47_ ia48_ ia49_ ia50_ ia51_ ia52_ ia53_ ia54_ ia55_ ia56_ ia57_ ia58_ ia59_ ia60_ ia61_ ia62_ ia63_ ia64_ ia65_ ia66_ ia67_ ia68_ ia69_ ia70_ ia71_ ia72_ ia73_ ia74_ ia75_ ia76_ ia77_ ia78_ ia79_ ia80_ ia81_ ia82_ ia83_ ia84_ ia85_ ia86_ ia87_ ia88_ ia89_ ia90_ ia91_ ia92_ ia93_ ia94_ ia95_ ia96_ ia97_ ia98_ ia99_ ia100_ ia101_ ia102_ ia103_ ia104_ ia105_ ia106_ ia107_ ia108_ ia109_ ia110_ ia111_ ia112_ ia113_ ia114_ ia115_ ia116_ ia117_ ia118_ ia119_ ia120_ ia121_ ia122_ ia123_ ia124_ ia125_ ia126_ ia127_ ia128_ ia129_ ia130_ ia131_ ia132_ ia133_ ia134_ ia135_ ia136_ ia137_ ia138_ ia139_ ia140_ ia141_ ia142_ ia143_ ia144_ ia145_ ia146_ ia147_ ia148_ ia149_ ia150_ ia151_ ia152_ ia153_ ia154_ ia155_ ia156_ ia157_ ia158_ ia159_ ia160_ ia161_ ia162_ ia163_ ia164_ ia165_ ia166_ ia167_ ia168_ ia169_ ia170_ ia171_ ia172_ ia173_ ia174_ ia175_ ia176_ ia177_ ia178_ ia179_ ia180_ ia181_ u298 u299 u300 u301 u302 u303 u304 u305 u306 u307 u308 u309 u310 u311 u312 u313 u314 u315 u316 u317 u318 u322 u323 u324 u325 u326 u327 u328 u329 u330 u331 u332 u333 u334 u335 u336 u337 u338 u339 u340 u341 u342 u343 u344 u345 u346 u347 u348 u349 u350 u351 u352 u353 u354 u355 u356 u357 u358 u359 u360 u361 u362 u363 u364 u365 u366 u367 u368 u369 u370 u371 u372 u373 u374 u375 u376 u377 u378 u379 u380 u381 u382 u383 u384 u385 u386 u387 u388 u389 u390 u391 u392 u393 u394 u395 u396 u397 u398 u399 u400 u401 kj18 HJ18 y234 Ny234 v235 w81 ia182_ ia183_ ia184_ Ao83 co83 HO214 HO225 ia185_ ia186_ ia187_ ia188_ ia189_ HO236 ia190_ ia191_ ia192_ u14 u15 u16 u135 u136 u137 u138 u139 u140 u141 u142 u143 u144 u145 u146 u147 u148 u149 u150 u151 u152 u153 u154 u155 u156 u157 u158 u159 u160 u161 u162 u163 u164 u165 u166 u167 u168 u169 u170 u171 u172 u173 u174 u175 u176 u177 u178 u179 u180 u181 u182 u183 u184 u185 u186 u187 u188 u189 u190 u191 u192 u193 u194 u195 u196 u197 u198 u199 u200 u201 u202 u203 u204 u205 u206 u207 ia193_ ia194_ ia195_ x14_3 x134_3 HO_4 HO_5 HO_7 HO_9 HO_14 HB k3 ia196_ HK3 c84b0 H' ia197_ ia198_ ia199_ ia200_ gk wr u2 u17 u18 u210 u211 u212 u213 u214 u215 u216 u217 u218 u219 u220 u221 u222 u223 u224 u225 u226 u227 u228 u229 u230 u231 u232 u233 u234 u235 u236 u237 u238 u239 u240 u241 u242 u243 u244 u245 u246 u247 u248 u249 u250 u251 u252 u253 u254 u255 u256 u257 u258 u259 u260 u261 u262 u263 u264 u265 u266 u267 u268 u269 u270 u271 u272 u273 u274 u275 u276 u277 u278 u279 u280 u281 u282 u283 u284 u285 u286 u287 u288 u289 u290 u291 u292 u293 u294 u295 u296 u297 hrel ia201_ ia202_ ia203_ ia204_
    exact hP936_.out

end Go.Proofs.Ytadloeklhjoohaa.XFnShelves
