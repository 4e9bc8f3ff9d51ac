/- What functions of the program compute, as plain Lean functions, and that Go's calls come to just that: written by wip/tools/xprint.py for the law FnColors. -/
import Derived.Test.YtihnhpohbpfkmaaXFnColorsx0
import Derived.Test.YtihnhpohbpfkmaaXFnColorsx2
import Derived.Test.YtihnhpohbpfkmaaXFnColorsx3
import Derived.Test.YtihnhpohbpfkmaaXFnColorsx4
import Derived.Test.YtihnhpohbpfkmaaXFnColorsx5
import Derived.Test.YtihnhpohbpfkmaaXFnColorsx10
import Derived.Test.YtihnhpohbpfkmaaXFnColorsx11
import Derived.Test.YtihnhpohbpfkmaaXFnColorsx12
import Derived.Test.YtihnhpohbpfkmaaXFnColorsx14
namespace Go.Proofs.Ytihnhpohbpfkmaa.XFnColors
open Go.RowKit Go.Proofs.YtihnhpohbpfkmaaW.PrintWords Go.Proofs.YtihnhpohbpfkmaaW.PrintLast Go.Proofs.YtihnhpohbpfkmaaW.PrintMore
attribute [local go_sem] max2_int min2_int max_two min_two max_three min_three max_four min_four   -- for this text's walks alone
set_option linter.unusedVariables false
set_option linter.unusedSimpArgs false

/-! ### laws_FnColors: function 3 -/
theorem laws_FnColors.yield_undef (f : Bool → Option Bool) (g : Option Value → Option Bool) : Go.yielded.match_1 (fun _ => Option Bool) (some undef) f g = g (some undef) := rfl
attribute [local go_sem] laws_FnColors.yield_undef
mutual
def laws_FnColors.j0 : Nat → List Int → Int → Bool → Int → Int → Int → Int → Int → Int → Option (Bool)
 | 0, _, _, _, _, _, _, _, _, _ => none
 | k + 1, x0, x3, x104, x262000, x262001, x265000, x265001, x268000, x268001 => if x104 = true then (some false) else ((impl_IsRainbow.f k x3 x262000 x262001 x265000 x265001 x268000 x268001).bind fun t277 => (if t277 = true then ((impl_CrossOf.f k x262000 x262001 x265000 x265001 x268000 x268001).bind fun t278 => (if t278 = 0 then (laws_FnColors.j1 k x0 x3 true) else ((impl_CrossOf.f k x262000 x262001 x265000 x265001 x268000 x268001).bind fun t279 => ((impl_HalvingsOf.f k t279).bind fun t280 => ((impl_HalvingsOf.f k x3).bind fun t281 => (laws_FnColors.j1 k x0 x3 (decide (t280 > (wrap64 (2 * t281)))))))))) else (laws_FnColors.j1 k x0 x3 false)))
def laws_FnColors.j1 : Nat → List Int → Int → Bool → Option (Bool)
 | 0, _, _, _ => none
 | k + 1, x0, x3, x127 => if x127 = true then (some false) else ((spec_MakeSquare.f k x0 20 x3).bind fun t282 => ((impl_Triangulate.f k t282).bind fun bt285 => ((impl_RainbowSides.f k x3 t282).bind fun t289 => (if bt285.2 = true then (if t289 < 1 then (laws_FnColors.j2 k x3 t282 bt285.1 true) else (laws_FnColors.j2 k x3 t282 bt285.1 ((Int.tmod t289 2) != 1))) else (laws_FnColors.j2 k x3 t282 bt285.1 true)))))
def laws_FnColors.j2 : Nat → Int → List (S25) → List (List Int) → Bool → Option (Bool)
 | 0, _, _, _, _ => none
 | k + 1, x3, x11, x12, x149 => if x149 = true then (some false) else ((impl_CountRainbows.f k x3 x11 x12).bind fun t290 => (if t290 < 1 then (laws_FnColors.j3 k x3 true) else (if (Int.tmod t290 2) = 1 then ((impl_EqualCut.f k x3 x11 x12).bind fun t291 => (if t291 = true then (laws_FnColors.j3 k x3 (((x12.length : Int) % 2) == 1)) else (laws_FnColors.j3 k x3 false))) else (laws_FnColors.j3 k x3 true))))
def laws_FnColors.j3 : Nat → Int → Bool → Option (Bool)
 | 0, _, _ => none
 | k + 1, x3, x172 => if x172 = true then (some false) else ((impl_RectangleOf.f x3 x3).bind fun t292 => ((impl_EqualCut.f k x3 t292 (([(([0, 1, 2] : List Int)), (([0, 2, 3] : List Int))] : List (List Int)))).bind fun t304 => (if t304 = true then ((impl_HalvingsOf.f k 12).bind fun t305 => (if t305 = 2 then ((impl_HalvingsOf.f k 0).bind fun t306 => (if t306 = 100 then ((impl_HalvingsOf.f k (-8)).bind fun t307 => (some (t307 == 3))) else (some false))) else (some false))) else (some false))))
end
def laws_FnColors.f (k : Nat) (l0 : List Int) : Option (Bool) := if (l0.length : Int) > 1048576 then (some true) else ((spec_MakeSize.f k l0 0 1 9).bind fun t258 => ((spec_MakeSize.f k l0 1 0 t258).bind fun t259 => ((spec_MakeSize.f k l0 2 0 t258).bind fun t260 => ((spec_MakeSize.f k l0 3 0 t258).bind fun t262 => ((spec_MakeSize.f k l0 4 0 t258).bind fun t263 => ((spec_MakeSize.f k l0 5 0 t258).bind fun t265 => ((spec_MakeSize.f k l0 6 0 t258).bind fun t266 => ((impl_ColorsOn.f k t258 t259 t260 t262 t263).bind fun t268 => ((impl_ColorOf.f k t258 t259 t260).bind fun t271 => ((impl_ColorOf.f k t258 t262 t263).bind fun t272 => ((impl_ColorOf.f k t258 t265 t266).bind fun t273 => (if (t268.length : Int) < 1 then (laws_FnColors.j0 k l0 t258 true t259 t260 t262 t263 t265 t266) else (if (t268.length : Int) > 2 then (laws_FnColors.j0 k l0 t258 true t259 t260 t262 t263 t265 t266) else ((laws_has.f k t268 t271).bind fun t274 => (if t274 = true then ((laws_has.f k t268 t272).bind fun t275 => (if t275 = true then (if t273 < 0 then (laws_FnColors.j0 k l0 t258 true t259 t260 t262 t263 t265 t266) else (if t273 > 2 then (laws_FnColors.j0 k l0 t258 true t259 t260 t262 t263 t265 t266) else ((impl_IsRainbow.f k t258 t259 t260 t262 t263 t265 t266).bind fun t276 => (if t271 = t272 then (laws_FnColors.j0 k l0 t258 (t276 != false) t259 t260 t262 t263 t265 t266) else (if t272 = t273 then (laws_FnColors.j0 k l0 t258 (t276 != false) t259 t260 t262 t263 t265 t266) else (laws_FnColors.j0 k l0 t258 (t276 != (t271 != t273)) t259 t260 t262 t263 t265 t266)))))) else (laws_FnColors.j0 k l0 t258 true t259 t260 t262 t263 t265 t266))) else (laws_FnColors.j0 k l0 t258 true t259 t260 t262 t263 t265 t266))))))))))))))))
theorem laws_FnColors.mono_l : ∀ k, (∀ y0 y1 y2 y3 y4 y5 y6 y7 y8, LeO (laws_FnColors.j0 k y0 y1 y2 y3 y4 y5 y6 y7 y8) (laws_FnColors.j0 (k + 1) y0 y1 y2 y3 y4 y5 y6 y7 y8)) ∧ (∀ y0 y1 y2, LeO (laws_FnColors.j1 k y0 y1 y2) (laws_FnColors.j1 (k + 1) y0 y1 y2)) ∧ (∀ y0 y1 y2 y3, LeO (laws_FnColors.j2 k y0 y1 y2 y3) (laws_FnColors.j2 (k + 1) y0 y1 y2 y3)) ∧ (∀ y0 y1, LeO (laws_FnColors.j3 k y0 y1) (laws_FnColors.j3 (k + 1) y0 y1))
 | 0 => ⟨fun _ _ _ _ _ _ _ _ _ r h => by simp [laws_FnColors.j0] at h, fun _ _ _ r h => by simp [laws_FnColors.j1] at h, fun _ _ _ _ r h => by simp [laws_FnColors.j2] at h, fun _ _ r h => by simp [laws_FnColors.j3] at h⟩
 | k + 1 => by
  obtain ⟨ih0, ih1, ih2, ih3⟩ := laws_FnColors.mono_l k; refine ⟨?_, ?_, ?_, ?_⟩
  ·intro y0 y1 y2 y3 y4 y5 y6 y7 y8
   unfold laws_FnColors.j0
   repeat' first
   | (with_reducible exact ih0 _ _ _ _ _ _ _ _ _)
   | (with_reducible exact ih1 _ _ _)
   | (with_reducible exact ih2 _ _ _ _)
   | (with_reducible exact ih3 _ _)
   | (with_reducible exact impl_ColorOf.mono _ _ _ _)
   | (with_reducible exact impl_ColorsOn.mono _ _ _ _ _ _)
   | (with_reducible exact impl_CountRainbows.mono _ _ _ _)
   | (with_reducible exact impl_CrossOf.mono _ _ _ _ _ _ _)
   | (with_reducible exact impl_EqualCut.mono _ _ _ _)
   | (with_reducible exact impl_HalvingsOf.mono _ _)
   | (with_reducible exact impl_IsRainbow.mono _ _ _ _ _ _ _ _)
   | (with_reducible exact impl_RainbowSides.mono _ _ _)
   | (with_reducible exact impl_Triangulate.mono _ _)
   | (with_reducible exact laws_has.mono _ _ _)
   | (with_reducible exact spec_MakeSize.mono _ _ _ _ _)
   | (with_reducible exact spec_MakeSquare.mono _ _ _ _)
   | (with_reducible exact LeO.refl _)
   | (with_reducible exact LeO.none _)
   | (with_reducible refine LeO.ite ?_ ?_)
   | (with_reducible refine LeO.bind ?_ (fun _ => ?_))
   | exact ih0 _ _ _ _ _ _ _ _ _
   | exact ih1 _ _ _
   | exact ih2 _ _ _ _
   | exact ih3 _ _
   | exact impl_ColorOf.mono _ _ _ _
   | exact impl_ColorsOn.mono _ _ _ _ _ _
   | exact impl_CountRainbows.mono _ _ _ _
   | exact impl_CrossOf.mono _ _ _ _ _ _ _
   | exact impl_EqualCut.mono _ _ _ _
   | exact impl_HalvingsOf.mono _ _
   | exact impl_IsRainbow.mono _ _ _ _ _ _ _ _
   | exact impl_RainbowSides.mono _ _ _
   | exact impl_Triangulate.mono _ _
   | exact laws_has.mono _ _ _
   | exact spec_MakeSize.mono _ _ _ _ _
   | exact spec_MakeSquare.mono _ _ _ _
   | exact LeO.none _
   | refine LeO.ite ?_ ?_
   | refine LeO.bind ?_ (fun _ => ?_)
  ·intro y0 y1 y2
   unfold laws_FnColors.j1
   repeat' first
   | (with_reducible exact ih0 _ _ _ _ _ _ _ _ _)
   | (with_reducible exact ih1 _ _ _)
   | (with_reducible exact ih2 _ _ _ _)
   | (with_reducible exact ih3 _ _)
   | (with_reducible exact impl_ColorOf.mono _ _ _ _)
   | (with_reducible exact impl_ColorsOn.mono _ _ _ _ _ _)
   | (with_reducible exact impl_CountRainbows.mono _ _ _ _)
   | (with_reducible exact impl_CrossOf.mono _ _ _ _ _ _ _)
   | (with_reducible exact impl_EqualCut.mono _ _ _ _)
   | (with_reducible exact impl_HalvingsOf.mono _ _)
   | (with_reducible exact impl_IsRainbow.mono _ _ _ _ _ _ _ _)
   | (with_reducible exact impl_RainbowSides.mono _ _ _)
   | (with_reducible exact impl_Triangulate.mono _ _)
   | (with_reducible exact laws_has.mono _ _ _)
   | (with_reducible exact spec_MakeSize.mono _ _ _ _ _)
   | (with_reducible exact spec_MakeSquare.mono _ _ _ _)
   | (with_reducible exact LeO.refl _)
   | (with_reducible exact LeO.none _)
   | (with_reducible refine LeO.ite ?_ ?_)
   | (with_reducible refine LeO.bind ?_ (fun _ => ?_))
   | exact ih0 _ _ _ _ _ _ _ _ _
   | exact ih1 _ _ _
   | exact ih2 _ _ _ _
   | exact ih3 _ _
   | exact impl_ColorOf.mono _ _ _ _
   | exact impl_ColorsOn.mono _ _ _ _ _ _
   | exact impl_CountRainbows.mono _ _ _ _
   | exact impl_CrossOf.mono _ _ _ _ _ _ _
   | exact impl_EqualCut.mono _ _ _ _
   | exact impl_HalvingsOf.mono _ _
   | exact impl_IsRainbow.mono _ _ _ _ _ _ _ _
   | exact impl_RainbowSides.mono _ _ _
   | exact impl_Triangulate.mono _ _
   | exact laws_has.mono _ _ _
   | exact spec_MakeSize.mono _ _ _ _ _
   | exact spec_MakeSquare.mono _ _ _ _
   | exact LeO.none _
   | refine LeO.ite ?_ ?_
   | refine LeO.bind ?_ (fun _ => ?_)
  ·intro y0 y1 y2 y3
   unfold laws_FnColors.j2
   repeat' first
   | (with_reducible exact ih0 _ _ _ _ _ _ _ _ _)
   | (with_reducible exact ih1 _ _ _)
   | (with_reducible exact ih2 _ _ _ _)
   | (with_reducible exact ih3 _ _)
   | (with_reducible exact impl_ColorOf.mono _ _ _ _)
   | (with_reducible exact impl_ColorsOn.mono _ _ _ _ _ _)
   | (with_reducible exact impl_CountRainbows.mono _ _ _ _)
   | (with_reducible exact impl_CrossOf.mono _ _ _ _ _ _ _)
   | (with_reducible exact impl_EqualCut.mono _ _ _ _)
   | (with_reducible exact impl_HalvingsOf.mono _ _)
   | (with_reducible exact impl_IsRainbow.mono _ _ _ _ _ _ _ _)
   | (with_reducible exact impl_RainbowSides.mono _ _ _)
   | (with_reducible exact impl_Triangulate.mono _ _)
   | (with_reducible exact laws_has.mono _ _ _)
   | (with_reducible exact spec_MakeSize.mono _ _ _ _ _)
   | (with_reducible exact spec_MakeSquare.mono _ _ _ _)
   | (with_reducible exact LeO.refl _)
   | (with_reducible exact LeO.none _)
   | (with_reducible refine LeO.ite ?_ ?_)
   | (with_reducible refine LeO.bind ?_ (fun _ => ?_))
   | exact ih0 _ _ _ _ _ _ _ _ _
   | exact ih1 _ _ _
   | exact ih2 _ _ _ _
   | exact ih3 _ _
   | exact impl_ColorOf.mono _ _ _ _
   | exact impl_ColorsOn.mono _ _ _ _ _ _
   | exact impl_CountRainbows.mono _ _ _ _
   | exact impl_CrossOf.mono _ _ _ _ _ _ _
   | exact impl_EqualCut.mono _ _ _ _
   | exact impl_HalvingsOf.mono _ _
   | exact impl_IsRainbow.mono _ _ _ _ _ _ _ _
   | exact impl_RainbowSides.mono _ _ _
   | exact impl_Triangulate.mono _ _
   | exact laws_has.mono _ _ _
   | exact spec_MakeSize.mono _ _ _ _ _
   | exact spec_MakeSquare.mono _ _ _ _
   | exact LeO.none _
   | refine LeO.ite ?_ ?_
   | refine LeO.bind ?_ (fun _ => ?_)
  ·intro y0 y1
   unfold laws_FnColors.j3
   repeat' first
   | (with_reducible exact ih0 _ _ _ _ _ _ _ _ _)
   | (with_reducible exact ih1 _ _ _)
   | (with_reducible exact ih2 _ _ _ _)
   | (with_reducible exact ih3 _ _)
   | (with_reducible exact impl_ColorOf.mono _ _ _ _)
   | (with_reducible exact impl_ColorsOn.mono _ _ _ _ _ _)
   | (with_reducible exact impl_CountRainbows.mono _ _ _ _)
   | (with_reducible exact impl_CrossOf.mono _ _ _ _ _ _ _)
   | (with_reducible exact impl_EqualCut.mono _ _ _ _)
   | (with_reducible exact impl_HalvingsOf.mono _ _)
   | (with_reducible exact impl_IsRainbow.mono _ _ _ _ _ _ _ _)
   | (with_reducible exact impl_RainbowSides.mono _ _ _)
   | (with_reducible exact impl_Triangulate.mono _ _)
   | (with_reducible exact laws_has.mono _ _ _)
   | (with_reducible exact spec_MakeSize.mono _ _ _ _ _)
   | (with_reducible exact spec_MakeSquare.mono _ _ _ _)
   | (with_reducible exact LeO.refl _)
   | (with_reducible exact LeO.none _)
   | (with_reducible refine LeO.ite ?_ ?_)
   | (with_reducible refine LeO.bind ?_ (fun _ => ?_))
   | exact ih0 _ _ _ _ _ _ _ _ _
   | exact ih1 _ _ _
   | exact ih2 _ _ _ _
   | exact ih3 _ _
   | exact impl_ColorOf.mono _ _ _ _
   | exact impl_ColorsOn.mono _ _ _ _ _ _
   | exact impl_CountRainbows.mono _ _ _ _
   | exact impl_CrossOf.mono _ _ _ _ _ _ _
   | exact impl_EqualCut.mono _ _ _ _
   | exact impl_HalvingsOf.mono _ _
   | exact impl_IsRainbow.mono _ _ _ _ _ _ _ _
   | exact impl_RainbowSides.mono _ _ _
   | exact impl_Triangulate.mono _ _
   | exact laws_has.mono _ _ _
   | exact spec_MakeSize.mono _ _ _ _ _
   | exact spec_MakeSquare.mono _ _ _ _
   | exact LeO.none _
   | refine LeO.ite ?_ ?_
   | refine LeO.bind ?_ (fun _ => ?_)
theorem laws_FnColors.mono : ∀ a0 k, LeO (laws_FnColors.f k a0) (laws_FnColors.f (k + 1) a0) := by
 intro a0 k
 obtain ⟨ih0, ih1, ih2, ih3⟩ := laws_FnColors.mono_l k
 unfold laws_FnColors.f
 repeat' first
  | (with_reducible exact ih0 _ _ _ _ _ _ _ _ _)
  | (with_reducible exact ih1 _ _ _)
  | (with_reducible exact ih2 _ _ _ _)
  | (with_reducible exact ih3 _ _)
  | (with_reducible exact impl_ColorOf.mono _ _ _ _)
  | (with_reducible exact impl_ColorsOn.mono _ _ _ _ _ _)
  | (with_reducible exact impl_CountRainbows.mono _ _ _ _)
  | (with_reducible exact impl_CrossOf.mono _ _ _ _ _ _ _)
  | (with_reducible exact impl_EqualCut.mono _ _ _ _)
  | (with_reducible exact impl_HalvingsOf.mono _ _)
  | (with_reducible exact impl_IsRainbow.mono _ _ _ _ _ _ _ _)
  | (with_reducible exact impl_RainbowSides.mono _ _ _)
  | (with_reducible exact impl_Triangulate.mono _ _)
  | (with_reducible exact laws_has.mono _ _ _)
  | (with_reducible exact spec_MakeSize.mono _ _ _ _ _)
  | (with_reducible exact spec_MakeSquare.mono _ _ _ _)
  | (with_reducible exact LeO.refl _)
  | (with_reducible exact LeO.none _)
  | (with_reducible refine LeO.ite ?_ ?_)
  | (with_reducible refine LeO.bind ?_ (fun _ => ?_))
  | exact ih0 _ _ _ _ _ _ _ _ _
  | exact ih1 _ _ _
  | exact ih2 _ _ _ _
  | exact ih3 _ _
  | exact impl_ColorOf.mono _ _ _ _
  | exact impl_ColorsOn.mono _ _ _ _ _ _
  | exact impl_CountRainbows.mono _ _ _ _
  | exact impl_CrossOf.mono _ _ _ _ _ _ _
  | exact impl_EqualCut.mono _ _ _ _
  | exact impl_HalvingsOf.mono _ _
  | exact impl_IsRainbow.mono _ _ _ _ _ _ _ _
  | exact impl_RainbowSides.mono _ _ _
  | exact impl_Triangulate.mono _ _
  | exact laws_has.mono _ _ _
  | exact spec_MakeSize.mono _ _ _ _ _
  | exact spec_MakeSquare.mono _ _ _ _
  | exact LeO.none _
  | refine LeO.ite ?_ ?_
  | refine LeO.bind ?_ (fun _ => ?_)
theorem laws_FnColors.j1_dead {k : Nat} {y0 y1 : _} {r : Bool} (hT : Aside0 (r = true)) (h : laws_FnColors.j1 k y0 y1 true = some r) : False := by
 have hT := hT.out
 subst hT
 cases k with
 | zero => simp [laws_FnColors.j1] at h
 | succ k => simp [laws_FnColors.j1] at h
theorem laws_FnColors.j2_dead {k : Nat} {y0 y1 y2 : _} {r : Bool} (hT : Aside0 (r = true)) (h : laws_FnColors.j2 k y0 y1 y2 true = some r) : False := by
 have hT := hT.out
 subst hT
 cases k with
 | zero => simp [laws_FnColors.j2] at h
 | succ k => simp [laws_FnColors.j2] at h
theorem laws_FnColors.j3_dead {k : Nat} {y0 : _} {r : Bool} (hT : Aside0 (r = true)) (h : laws_FnColors.j3 k y0 true = some r) : False := by
 have hT := hT.out
 subst hT
 cases k with
 | zero => simp [laws_FnColors.j3] at h
 | succ k => simp [laws_FnColors.j3] at h
theorem laws_FnColors.no_false {r : Bool} (hT : Aside0 (r = true)) (h : some false = some r) : False := by
 have hT := hT.out
 subst hT
 simp at h
set_option maxHeartbeats 8000000 in
set_option maxRecDepth 100000 in
theorem laws_FnColors.calls (k : Nat) (A0 : Option Addr) (c0 : Nat) (l0 : List Int) (r : Bool) (w : World) (hr0 : Kd.C (Kd.int .u8) w A0 l0.length l0) (hc0 : l0.length ≤ c0) (h : laws_FnColors.f k l0 = some r) (hT_ : r = true) :
  Calls Try.prog 3 #[.slice A0 l0.length c0] w fun e w' => e = .returned (.bool r) ∧ Below w.heap.size w w' := by
 have HT := Aside0.mk hT_
 clear hT_
 have hu25 := Try.underlying25
 have HR0 := Aside0.mk hr0
 have HC0 := Aside0.mk hc0
 clear hr0 hc0
 have HB := Aside0.mk (Below.refl w.heap.size w)
 have H : (if (l0.length : Int) > 1048576 then (some true) else ((spec_MakeSize.f k l0 0 1 9).bind fun t258 => ((spec_MakeSize.f k l0 1 0 t258).bind fun t259 => ((spec_MakeSize.f k l0 2 0 t258).bind fun t260 => ((spec_MakeSize.f k l0 3 0 t258).bind fun t262 => ((spec_MakeSize.f k l0 4 0 t258).bind fun t263 => ((spec_MakeSize.f k l0 5 0 t258).bind fun t265 => ((spec_MakeSize.f k l0 6 0 t258).bind fun t266 => ((impl_ColorsOn.f k t258 t259 t260 t262 t263).bind fun t268 => ((impl_ColorOf.f k t258 t259 t260).bind fun t271 => ((impl_ColorOf.f k t258 t262 t263).bind fun t272 => ((impl_ColorOf.f k t258 t265 t266).bind fun t273 => (if (t268.length : Int) < 1 then (laws_FnColors.j0 k l0 t258 true t259 t260 t262 t263 t265 t266) else (if (t268.length : Int) > 2 then (laws_FnColors.j0 k l0 t258 true t259 t260 t262 t263 t265 t266) else ((laws_has.f k t268 t271).bind fun t274 => (if t274 = true then ((laws_has.f k t268 t272).bind fun t275 => (if t275 = true then (if t273 < 0 then (laws_FnColors.j0 k l0 t258 true t259 t260 t262 t263 t265 t266) else (if t273 > 2 then (laws_FnColors.j0 k l0 t258 true t259 t260 t262 t263 t265 t266) else ((impl_IsRainbow.f k t258 t259 t260 t262 t263 t265 t266).bind fun t276 => (if t271 = t272 then (laws_FnColors.j0 k l0 t258 (t276 != false) t259 t260 t262 t263 t265 t266) else (if t272 = t273 then (laws_FnColors.j0 k l0 t258 (t276 != false) t259 t260 t262 t263 t265 t266) else (laws_FnColors.j0 k l0 t258 (t276 != (t271 != t273)) t259 t260 t262 t263 t265 t266)))))) else (laws_FnColors.j0 k l0 t258 true t259 t260 t262 t263 t265 t266))) else (laws_FnColors.j0 k l0 t258 true t259 t260 t262 t263 t265 t266))))))))))))))))) = some r := h
 clear h
 by_cases c2 : (l0.length : Int) > 1048576
 ·rw [if_pos c2] at H
  have c2b0 : decide (1048576 < (l0.length : Int)) = true := decide_eq_true c2; have c2b1 : decide (1048576 < l0.length) = true := decide_eq_true (by omega); clear c2; obtain rfl := Option.some.inj H; go_enter Try.func3, Try.ntmps3
  go_wp2
  go_ret
  exact ⟨by first | rfl | (simp [errW_none, errW_some] <;> rfl) | (simp [*, errW_none, errW_some] <;> rfl), by repeat (first | (with_reducible first | exact HB.out | apply below_alloc | apply pw_below_drewN | apply below_drew1) | exact HB.out)⟩
 ·rw [if_neg c2] at H
  have c2b0 : decide (1048576 < (l0.length : Int)) = false := decide_eq_false c2; have c2b1 : decide (1048576 < l0.length) = false := decide_eq_false (by omega); clear c2; replace H := Option.bind_eq_some_iff.mp H; obtain ⟨t258, A30, H⟩ := H; replace H : ((spec_MakeSize.f k l0 1 0 t258).bind fun t259 => ((spec_MakeSize.f k l0 2 0 t258).bind fun t260 => ((spec_MakeSize.f k l0 3 0 t258).bind fun t262 => ((spec_MakeSize.f k l0 4 0 t258).bind fun t263 => ((spec_MakeSize.f k l0 5 0 t258).bind fun t265 => ((spec_MakeSize.f k l0 6 0 t258).bind fun t266 => ((impl_ColorsOn.f k t258 t259 t260 t262 t263).bind fun t268 => ((impl_ColorOf.f k t258 t259 t260).bind fun t271 => ((impl_ColorOf.f k t258 t262 t263).bind fun t272 => ((impl_ColorOf.f k t258 t265 t266).bind fun t273 => (if (t268.length : Int) < 1 then (laws_FnColors.j0 k l0 t258 true t259 t260 t262 t263 t265 t266) else (if (t268.length : Int) > 2 then (laws_FnColors.j0 k l0 t258 true t259 t260 t262 t263 t265 t266) else ((laws_has.f k t268 t271).bind fun t274 => (if t274 = true then ((laws_has.f k t268 t272).bind fun t275 => (if t275 = true then (if t273 < 0 then (laws_FnColors.j0 k l0 t258 true t259 t260 t262 t263 t265 t266) else (if t273 > 2 then (laws_FnColors.j0 k l0 t258 true t259 t260 t262 t263 t265 t266) else ((impl_IsRainbow.f k t258 t259 t260 t262 t263 t265 t266).bind fun t276 => (if t271 = t272 then (laws_FnColors.j0 k l0 t258 (t276 != false) t259 t260 t262 t263 t265 t266) else (if t272 = t273 then (laws_FnColors.j0 k l0 t258 (t276 != false) t259 t260 t262 t263 t265 t266) else (laws_FnColors.j0 k l0 t258 (t276 != (t271 != t273)) t259 t260 t262 t263 t265 t266)))))) else (laws_FnColors.j0 k l0 t258 true t259 t260 t262 t263 t265 t266))) else (laws_FnColors.j0 k l0 t258 true t259 t260 t262 t263 t265 t266))))))))))))))) = some r := H; have A3 := Aside0.mk A30; clear A30; replace H := Option.bind_eq_some_iff.mp H; obtain ⟨t259, A40, H⟩ := H; replace H : ((spec_MakeSize.f k l0 2 0 t258).bind fun t260 => ((spec_MakeSize.f k l0 3 0 t258).bind fun t262 => ((spec_MakeSize.f k l0 4 0 t258).bind fun t263 => ((spec_MakeSize.f k l0 5 0 t258).bind fun t265 => ((spec_MakeSize.f k l0 6 0 t258).bind fun t266 => ((impl_ColorsOn.f k t258 t259 t260 t262 t263).bind fun t268 => ((impl_ColorOf.f k t258 t259 t260).bind fun t271 => ((impl_ColorOf.f k t258 t262 t263).bind fun t272 => ((impl_ColorOf.f k t258 t265 t266).bind fun t273 => (if (t268.length : Int) < 1 then (laws_FnColors.j0 k l0 t258 true t259 t260 t262 t263 t265 t266) else (if (t268.length : Int) > 2 then (laws_FnColors.j0 k l0 t258 true t259 t260 t262 t263 t265 t266) else ((laws_has.f k t268 t271).bind fun t274 => (if t274 = true then ((laws_has.f k t268 t272).bind fun t275 => (if t275 = true then (if t273 < 0 then (laws_FnColors.j0 k l0 t258 true t259 t260 t262 t263 t265 t266) else (if t273 > 2 then (laws_FnColors.j0 k l0 t258 true t259 t260 t262 t263 t265 t266) else ((impl_IsRainbow.f k t258 t259 t260 t262 t263 t265 t266).bind fun t276 => (if t271 = t272 then (laws_FnColors.j0 k l0 t258 (t276 != false) t259 t260 t262 t263 t265 t266) else (if t272 = t273 then (laws_FnColors.j0 k l0 t258 (t276 != false) t259 t260 t262 t263 t265 t266) else (laws_FnColors.j0 k l0 t258 (t276 != (t271 != t273)) t259 t260 t262 t263 t265 t266)))))) else (laws_FnColors.j0 k l0 t258 true t259 t260 t262 t263 t265 t266))) else (laws_FnColors.j0 k l0 t258 true t259 t260 t262 t263 t265 t266)))))))))))))) = some r := H; have A4 := Aside0.mk A40; clear A40; replace H := Option.bind_eq_some_iff.mp H; obtain ⟨t260, A50, H⟩ := H; replace H : ((spec_MakeSize.f k l0 3 0 t258).bind fun t262 => ((spec_MakeSize.f k l0 4 0 t258).bind fun t263 => ((spec_MakeSize.f k l0 5 0 t258).bind fun t265 => ((spec_MakeSize.f k l0 6 0 t258).bind fun t266 => ((impl_ColorsOn.f k t258 t259 t260 t262 t263).bind fun t268 => ((impl_ColorOf.f k t258 t259 t260).bind fun t271 => ((impl_ColorOf.f k t258 t262 t263).bind fun t272 => ((impl_ColorOf.f k t258 t265 t266).bind fun t273 => (if (t268.length : Int) < 1 then (laws_FnColors.j0 k l0 t258 true t259 t260 t262 t263 t265 t266) else (if (t268.length : Int) > 2 then (laws_FnColors.j0 k l0 t258 true t259 t260 t262 t263 t265 t266) else ((laws_has.f k t268 t271).bind fun t274 => (if t274 = true then ((laws_has.f k t268 t272).bind fun t275 => (if t275 = true then (if t273 < 0 then (laws_FnColors.j0 k l0 t258 true t259 t260 t262 t263 t265 t266) else (if t273 > 2 then (laws_FnColors.j0 k l0 t258 true t259 t260 t262 t263 t265 t266) else ((impl_IsRainbow.f k t258 t259 t260 t262 t263 t265 t266).bind fun t276 => (if t271 = t272 then (laws_FnColors.j0 k l0 t258 (t276 != false) t259 t260 t262 t263 t265 t266) else (if t272 = t273 then (laws_FnColors.j0 k l0 t258 (t276 != false) t259 t260 t262 t263 t265 t266) else (laws_FnColors.j0 k l0 t258 (t276 != (t271 != t273)) t259 t260 t262 t263 t265 t266)))))) else (laws_FnColors.j0 k l0 t258 true t259 t260 t262 t263 t265 t266))) else (laws_FnColors.j0 k l0 t258 true t259 t260 t262 t263 t265 t266))))))))))))) = some r := H; have A5 := Aside0.mk A50; clear A50; replace H := Option.bind_eq_some_iff.mp H; obtain ⟨t262, A60, H⟩ := H; replace H : ((spec_MakeSize.f k l0 4 0 t258).bind fun t263 => ((spec_MakeSize.f k l0 5 0 t258).bind fun t265 => ((spec_MakeSize.f k l0 6 0 t258).bind fun t266 => ((impl_ColorsOn.f k t258 t259 t260 t262 t263).bind fun t268 => ((impl_ColorOf.f k t258 t259 t260).bind fun t271 => ((impl_ColorOf.f k t258 t262 t263).bind fun t272 => ((impl_ColorOf.f k t258 t265 t266).bind fun t273 => (if (t268.length : Int) < 1 then (laws_FnColors.j0 k l0 t258 true t259 t260 t262 t263 t265 t266) else (if (t268.length : Int) > 2 then (laws_FnColors.j0 k l0 t258 true t259 t260 t262 t263 t265 t266) else ((laws_has.f k t268 t271).bind fun t274 => (if t274 = true then ((laws_has.f k t268 t272).bind fun t275 => (if t275 = true then (if t273 < 0 then (laws_FnColors.j0 k l0 t258 true t259 t260 t262 t263 t265 t266) else (if t273 > 2 then (laws_FnColors.j0 k l0 t258 true t259 t260 t262 t263 t265 t266) else ((impl_IsRainbow.f k t258 t259 t260 t262 t263 t265 t266).bind fun t276 => (if t271 = t272 then (laws_FnColors.j0 k l0 t258 (t276 != false) t259 t260 t262 t263 t265 t266) else (if t272 = t273 then (laws_FnColors.j0 k l0 t258 (t276 != false) t259 t260 t262 t263 t265 t266) else (laws_FnColors.j0 k l0 t258 (t276 != (t271 != t273)) t259 t260 t262 t263 t265 t266)))))) else (laws_FnColors.j0 k l0 t258 true t259 t260 t262 t263 t265 t266))) else (laws_FnColors.j0 k l0 t258 true t259 t260 t262 t263 t265 t266)))))))))))) = some r := H; have A6 := Aside0.mk A60; clear A60; replace H := Option.bind_eq_some_iff.mp H; obtain ⟨t263, A70, H⟩ := H; replace H : ((spec_MakeSize.f k l0 5 0 t258).bind fun t265 => ((spec_MakeSize.f k l0 6 0 t258).bind fun t266 => ((impl_ColorsOn.f k t258 t259 t260 t262 t263).bind fun t268 => ((impl_ColorOf.f k t258 t259 t260).bind fun t271 => ((impl_ColorOf.f k t258 t262 t263).bind fun t272 => ((impl_ColorOf.f k t258 t265 t266).bind fun t273 => (if (t268.length : Int) < 1 then (laws_FnColors.j0 k l0 t258 true t259 t260 t262 t263 t265 t266) else (if (t268.length : Int) > 2 then (laws_FnColors.j0 k l0 t258 true t259 t260 t262 t263 t265 t266) else ((laws_has.f k t268 t271).bind fun t274 => (if t274 = true then ((laws_has.f k t268 t272).bind fun t275 => (if t275 = true then (if t273 < 0 then (laws_FnColors.j0 k l0 t258 true t259 t260 t262 t263 t265 t266) else (if t273 > 2 then (laws_FnColors.j0 k l0 t258 true t259 t260 t262 t263 t265 t266) else ((impl_IsRainbow.f k t258 t259 t260 t262 t263 t265 t266).bind fun t276 => (if t271 = t272 then (laws_FnColors.j0 k l0 t258 (t276 != false) t259 t260 t262 t263 t265 t266) else (if t272 = t273 then (laws_FnColors.j0 k l0 t258 (t276 != false) t259 t260 t262 t263 t265 t266) else (laws_FnColors.j0 k l0 t258 (t276 != (t271 != t273)) t259 t260 t262 t263 t265 t266)))))) else (laws_FnColors.j0 k l0 t258 true t259 t260 t262 t263 t265 t266))) else (laws_FnColors.j0 k l0 t258 true t259 t260 t262 t263 t265 t266))))))))))) = some r := H; have A7 := Aside0.mk A70; clear A70; replace H := Option.bind_eq_some_iff.mp H; obtain ⟨t265, A80, H⟩ := H; replace H : ((spec_MakeSize.f k l0 6 0 t258).bind fun t266 => ((impl_ColorsOn.f k t258 t259 t260 t262 t263).bind fun t268 => ((impl_ColorOf.f k t258 t259 t260).bind fun t271 => ((impl_ColorOf.f k t258 t262 t263).bind fun t272 => ((impl_ColorOf.f k t258 t265 t266).bind fun t273 => (if (t268.length : Int) < 1 then (laws_FnColors.j0 k l0 t258 true t259 t260 t262 t263 t265 t266) else (if (t268.length : Int) > 2 then (laws_FnColors.j0 k l0 t258 true t259 t260 t262 t263 t265 t266) else ((laws_has.f k t268 t271).bind fun t274 => (if t274 = true then ((laws_has.f k t268 t272).bind fun t275 => (if t275 = true then (if t273 < 0 then (laws_FnColors.j0 k l0 t258 true t259 t260 t262 t263 t265 t266) else (if t273 > 2 then (laws_FnColors.j0 k l0 t258 true t259 t260 t262 t263 t265 t266) else ((impl_IsRainbow.f k t258 t259 t260 t262 t263 t265 t266).bind fun t276 => (if t271 = t272 then (laws_FnColors.j0 k l0 t258 (t276 != false) t259 t260 t262 t263 t265 t266) else (if t272 = t273 then (laws_FnColors.j0 k l0 t258 (t276 != false) t259 t260 t262 t263 t265 t266) else (laws_FnColors.j0 k l0 t258 (t276 != (t271 != t273)) t259 t260 t262 t263 t265 t266)))))) else (laws_FnColors.j0 k l0 t258 true t259 t260 t262 t263 t265 t266))) else (laws_FnColors.j0 k l0 t258 true t259 t260 t262 t263 t265 t266)))))))))) = some r := H; have A8 := Aside0.mk A80; clear A80; replace H := Option.bind_eq_some_iff.mp H; obtain ⟨t266, A90, H⟩ := H; replace H : ((impl_ColorsOn.f k t258 t259 t260 t262 t263).bind fun t268 => ((impl_ColorOf.f k t258 t259 t260).bind fun t271 => ((impl_ColorOf.f k t258 t262 t263).bind fun t272 => ((impl_ColorOf.f k t258 t265 t266).bind fun t273 => (if (t268.length : Int) < 1 then (laws_FnColors.j0 k l0 t258 true t259 t260 t262 t263 t265 t266) else (if (t268.length : Int) > 2 then (laws_FnColors.j0 k l0 t258 true t259 t260 t262 t263 t265 t266) else ((laws_has.f k t268 t271).bind fun t274 => (if t274 = true then ((laws_has.f k t268 t272).bind fun t275 => (if t275 = true then (if t273 < 0 then (laws_FnColors.j0 k l0 t258 true t259 t260 t262 t263 t265 t266) else (if t273 > 2 then (laws_FnColors.j0 k l0 t258 true t259 t260 t262 t263 t265 t266) else ((impl_IsRainbow.f k t258 t259 t260 t262 t263 t265 t266).bind fun t276 => (if t271 = t272 then (laws_FnColors.j0 k l0 t258 (t276 != false) t259 t260 t262 t263 t265 t266) else (if t272 = t273 then (laws_FnColors.j0 k l0 t258 (t276 != false) t259 t260 t262 t263 t265 t266) else (laws_FnColors.j0 k l0 t258 (t276 != (t271 != t273)) t259 t260 t262 t263 t265 t266)))))) else (laws_FnColors.j0 k l0 t258 true t259 t260 t262 t263 t265 t266))) else (laws_FnColors.j0 k l0 t258 true t259 t260 t262 t263 t265 t266))))))))) = some r := H; have A9 := Aside0.mk A90; clear A90; replace H := Option.bind_eq_some_iff.mp H; obtain ⟨t268, A100, H⟩ := H; replace H : ((impl_ColorOf.f k t258 t259 t260).bind fun t271 => ((impl_ColorOf.f k t258 t262 t263).bind fun t272 => ((impl_ColorOf.f k t258 t265 t266).bind fun t273 => (if (t268.length : Int) < 1 then (laws_FnColors.j0 k l0 t258 true t259 t260 t262 t263 t265 t266) else (if (t268.length : Int) > 2 then (laws_FnColors.j0 k l0 t258 true t259 t260 t262 t263 t265 t266) else ((laws_has.f k t268 t271).bind fun t274 => (if t274 = true then ((laws_has.f k t268 t272).bind fun t275 => (if t275 = true then (if t273 < 0 then (laws_FnColors.j0 k l0 t258 true t259 t260 t262 t263 t265 t266) else (if t273 > 2 then (laws_FnColors.j0 k l0 t258 true t259 t260 t262 t263 t265 t266) else ((impl_IsRainbow.f k t258 t259 t260 t262 t263 t265 t266).bind fun t276 => (if t271 = t272 then (laws_FnColors.j0 k l0 t258 (t276 != false) t259 t260 t262 t263 t265 t266) else (if t272 = t273 then (laws_FnColors.j0 k l0 t258 (t276 != false) t259 t260 t262 t263 t265 t266) else (laws_FnColors.j0 k l0 t258 (t276 != (t271 != t273)) t259 t260 t262 t263 t265 t266)))))) else (laws_FnColors.j0 k l0 t258 true t259 t260 t262 t263 t265 t266))) else (laws_FnColors.j0 k l0 t258 true t259 t260 t262 t263 t265 t266)))))))) = some r := H; have A10 := Aside0.mk A100; clear A100; replace H := Option.bind_eq_some_iff.mp H; obtain ⟨t271, A110, H⟩ := H; replace H : ((impl_ColorOf.f k t258 t262 t263).bind fun t272 => ((impl_ColorOf.f k t258 t265 t266).bind fun t273 => (if (t268.length : Int) < 1 then (laws_FnColors.j0 k l0 t258 true t259 t260 t262 t263 t265 t266) else (if (t268.length : Int) > 2 then (laws_FnColors.j0 k l0 t258 true t259 t260 t262 t263 t265 t266) else ((laws_has.f k t268 t271).bind fun t274 => (if t274 = true then ((laws_has.f k t268 t272).bind fun t275 => (if t275 = true then (if t273 < 0 then (laws_FnColors.j0 k l0 t258 true t259 t260 t262 t263 t265 t266) else (if t273 > 2 then (laws_FnColors.j0 k l0 t258 true t259 t260 t262 t263 t265 t266) else ((impl_IsRainbow.f k t258 t259 t260 t262 t263 t265 t266).bind fun t276 => (if t271 = t272 then (laws_FnColors.j0 k l0 t258 (t276 != false) t259 t260 t262 t263 t265 t266) else (if t272 = t273 then (laws_FnColors.j0 k l0 t258 (t276 != false) t259 t260 t262 t263 t265 t266) else (laws_FnColors.j0 k l0 t258 (t276 != (t271 != t273)) t259 t260 t262 t263 t265 t266)))))) else (laws_FnColors.j0 k l0 t258 true t259 t260 t262 t263 t265 t266))) else (laws_FnColors.j0 k l0 t258 true t259 t260 t262 t263 t265 t266))))))) = some r := H; have A11 := Aside0.mk A110; clear A110; replace H := Option.bind_eq_some_iff.mp H; obtain ⟨t272, A120, H⟩ := H; replace H : ((impl_ColorOf.f k t258 t265 t266).bind fun t273 => (if (t268.length : Int) < 1 then (laws_FnColors.j0 k l0 t258 true t259 t260 t262 t263 t265 t266) else (if (t268.length : Int) > 2 then (laws_FnColors.j0 k l0 t258 true t259 t260 t262 t263 t265 t266) else ((laws_has.f k t268 t271).bind fun t274 => (if t274 = true then ((laws_has.f k t268 t272).bind fun t275 => (if t275 = true then (if t273 < 0 then (laws_FnColors.j0 k l0 t258 true t259 t260 t262 t263 t265 t266) else (if t273 > 2 then (laws_FnColors.j0 k l0 t258 true t259 t260 t262 t263 t265 t266) else ((impl_IsRainbow.f k t258 t259 t260 t262 t263 t265 t266).bind fun t276 => (if t271 = t272 then (laws_FnColors.j0 k l0 t258 (t276 != false) t259 t260 t262 t263 t265 t266) else (if t272 = t273 then (laws_FnColors.j0 k l0 t258 (t276 != false) t259 t260 t262 t263 t265 t266) else (laws_FnColors.j0 k l0 t258 (t276 != (t271 != t273)) t259 t260 t262 t263 t265 t266)))))) else (laws_FnColors.j0 k l0 t258 true t259 t260 t262 t263 t265 t266))) else (laws_FnColors.j0 k l0 t258 true t259 t260 t262 t263 t265 t266)))))) = some r := H; have A12 := Aside0.mk A120; clear A120; replace H := Option.bind_eq_some_iff.mp H; obtain ⟨t273, A130, H⟩ := H; replace H : (if (t268.length : Int) < 1 then (laws_FnColors.j0 k l0 t258 true t259 t260 t262 t263 t265 t266) else (if (t268.length : Int) > 2 then (laws_FnColors.j0 k l0 t258 true t259 t260 t262 t263 t265 t266) else ((laws_has.f k t268 t271).bind fun t274 => (if t274 = true then ((laws_has.f k t268 t272).bind fun t275 => (if t275 = true then (if t273 < 0 then (laws_FnColors.j0 k l0 t258 true t259 t260 t262 t263 t265 t266) else (if t273 > 2 then (laws_FnColors.j0 k l0 t258 true t259 t260 t262 t263 t265 t266) else ((impl_IsRainbow.f k t258 t259 t260 t262 t263 t265 t266).bind fun t276 => (if t271 = t272 then (laws_FnColors.j0 k l0 t258 (t276 != false) t259 t260 t262 t263 t265 t266) else (if t272 = t273 then (laws_FnColors.j0 k l0 t258 (t276 != false) t259 t260 t262 t263 t265 t266) else (laws_FnColors.j0 k l0 t258 (t276 != (t271 != t273)) t259 t260 t262 t263 t265 t266)))))) else (laws_FnColors.j0 k l0 t258 true t259 t260 t262 t263 t265 t266))) else (laws_FnColors.j0 k l0 t258 true t259 t260 t262 t263 t265 t266))))) = some r := H; have A13 := Aside0.mk A130; clear A130; have HC14 := Aside0.mk H; clear H; go_enter Try.func3, Try.ntmps3
  go_upto_region 11 with (first | ((with_reducible refine gate_callee (f := 7) rfl ?_); refine goesL_ (some 21) rfl rfl Try.func7 (by kernel_rfl) rfl #[.slice A0 l0.length c0, .int .i64 0, .int .i64 1, .int .i64 9] rfl (by (try simp only [List.map_toArray, List.map_cons, List.map_nil]); first | done | rfl | (simp only [List.length_drop, List.length_take]; rfl)) ?_; (with_reducible refine (spec_MakeSize.calls k _ _ l0 0 1 9 t258 _ ?side1 ?side2 A3.out).mono ?_); (case side1 => repeat (first | exact HR0.out | (with_reducible refine Kd.C_alloc ?_ _) | (with_reducible refine Kd.C_drewN ?_ _) | (with_reducible refine Kd.C_drew ?_))); (case side2 => exact HC0.out); rintro e w15 ⟨rfl, hb⟩; refine ⟨_, rfl, ?_⟩; have n0_ := Aside0.mk (below_step (by repeat (first | (with_reducible first | exact HB.out | apply below_alloc | apply pw_below_drewN | apply below_drew1) | exact HB.out)) hb); clear HB; have HB := n0_; clear n0_; (try clear hb); (try clear hb2); (try clear hk); (try clear hi)) | ((with_reducible refine gate_callee (f := 7) rfl ?_); refine goesL_ (some 24) rfl rfl Try.func7 (by kernel_rfl) rfl #[.slice A0 l0.length c0, .int .i64 1, .int .i64 0, .int .i64 t258] rfl (by (try simp only [List.map_toArray, List.map_cons, List.map_nil]); first | done | rfl | (simp only [List.length_drop, List.length_take]; rfl)) ?_; (with_reducible refine (spec_MakeSize.calls k _ _ l0 1 0 t258 t259 _ ?side1 ?side2 A4.out).mono ?_); (case side1 => repeat (first | exact (Kd.C_below HR0.out HB.out) | (with_reducible refine Kd.C_alloc ?_ _) | (with_reducible refine Kd.C_drewN ?_ _) | (with_reducible refine Kd.C_drew ?_))); (case side2 => exact HC0.out); rintro e w16 ⟨rfl, hb⟩; refine ⟨_, rfl, ?_⟩; have n0_ := Aside0.mk (below_step (by repeat (first | (with_reducible first | exact HB.out | apply below_alloc | apply pw_below_drewN | apply below_drew1) | exact HB.out)) hb); clear HB; have HB := n0_; clear n0_; (try clear hb); (try clear hb2); (try clear hk); (try clear hi)) | ((with_reducible refine gate_callee (f := 7) rfl ?_); refine goesL_ (some 27) rfl rfl Try.func7 (by kernel_rfl) rfl #[.slice A0 l0.length c0, .int .i64 2, .int .i64 0, .int .i64 t258] rfl (by (try simp only [List.map_toArray, List.map_cons, List.map_nil]); first | done | rfl | (simp only [List.length_drop, List.length_take]; rfl)) ?_; (with_reducible refine (spec_MakeSize.calls k _ _ l0 2 0 t258 t260 _ ?side1 ?side2 A5.out).mono ?_); (case side1 => repeat (first | exact (Kd.C_below HR0.out HB.out) | (with_reducible refine Kd.C_alloc ?_ _) | (with_reducible refine Kd.C_drewN ?_ _) | (with_reducible refine Kd.C_drew ?_))); (case side2 => exact HC0.out); rintro e w17 ⟨rfl, hb⟩; refine ⟨_, rfl, ?_⟩; have n0_ := Aside0.mk (below_step (by repeat (first | (with_reducible first | exact HB.out | apply below_alloc | apply pw_below_drewN | apply below_drew1) | exact HB.out)) hb); clear HB; have HB := n0_; clear n0_; (try clear hb); (try clear hb2); (try clear hk); (try clear hi)) | ((with_reducible refine gate_dst (N := 4) rfl ?_); (try (refine gate_guard (by rfl) ?_; dsimp only)); refine box_event ?hg (N := 4) ?hd (cs := #[.int .i64 0, .int .i64 0]) (t := 25) ?hr ?_; (case hd => rfl); (case hg => rfl); (case hr => first | (go_simp; done) | (go_simp; rfl)); intro gb261 hg w18 hbox hb; have n0_ := Aside0.mk (below_step (by repeat (first | (with_reducible first | exact HB.out | apply below_alloc | apply pw_below_drewN | apply below_drew1) | exact HB.out)) hb); have n1_ := Aside0.mk (hbox); have n2_ := Aside0.mk ((by rw [hg]; exact (below_size (by repeat (first | (with_reducible first | exact HB.out | apply below_alloc | apply pw_below_drewN | apply below_drew1) | exact HB.out))) : w.heap.size ≤ gb261)); have n3_ := Aside0.mk ((by rw [hg]; exact (below_size (by repeat (first | (with_reducible first | exact HB.out | apply below_alloc | apply pw_below_drewN | apply below_drew1) | exact HB.out))) : w.heap.size ≤ gb261)); clear HB; have HB := n0_; have BK261 := n1_; have GW261 := n2_; have GE261 := n3_; clear n0_ n1_ n2_ n3_; clear hb hbox hg; have hcz19_0 : w18.cell? ⟨gb261, 0, none⟩ = some (.int .i64 0) := (blk_cell BK261.out 0).trans rfl; have hcz19_1 : w18.cell? ⟨gb261, 1, none⟩ = some (.int .i64 0) := (blk_cell BK261.out 1).trans rfl; have hfz19_0 := blk_frozen BK261.out 0; have hfz19_1 := blk_frozen BK261.out 1) | ((with_reducible refine gate_callee (f := 7) rfl ?_); refine goesL_ (some 31) rfl rfl Try.func7 (by kernel_rfl) rfl #[.slice A0 l0.length c0, .int .i64 3, .int .i64 0, .int .i64 t258] rfl (by (try simp only [List.map_toArray, List.map_cons, List.map_nil]); first | done | rfl | (simp only [List.length_drop, List.length_take]; rfl)) ?_; (with_reducible refine (spec_MakeSize.calls k _ _ l0 3 0 t258 t262 _ ?side1 ?side2 A6.out).mono ?_); (case side1 => exact Kd.C_below HR0.out (by repeat (first | (with_reducible first | exact HB.out | apply below_alloc | apply pw_below_drewN | apply below_drew1 | refine below_set ?_ GE261.out) | exact HB.out))); (case side2 => exact HC0.out); rintro e w20 ⟨rfl, hb⟩; refine ⟨_, rfl, ?_⟩; have n0_ := Aside0.mk (blk_below (g := gb261) (o := .cells #[.int .i64 t259, .int .i64 t260] 25 (0, 0)) (by (with_reducible repeat (first | refine blk_drewN ?_ _ | refine blk_drew ?_ | refine blk_alloc ?_ _)); refine blk_put (cs := #[.int .i64 t259, .int .i64 0]) ?_ 1 _ rfl; (with_reducible repeat (first | refine blk_drewN ?_ _ | refine blk_drew ?_ | refine blk_alloc ?_ _)); refine blk_put (cs := #[.int .i64 0, .int .i64 0]) ?_ 0 _ rfl; (with_reducible repeat (first | refine blk_drewN ?_ _ | refine blk_drew ?_ | refine blk_alloc ?_ _)); exact BK261.out) hb); have n1_ := Aside0.mk (below_step (by repeat (first | (with_reducible first | exact HB.out | apply below_alloc | apply pw_below_drewN | apply below_drew1 | refine below_set ?_ GE261.out) | exact HB.out)) hb); clear BK261; clear HB; have BK261 := n0_; have HB := n1_; clear n0_ n1_; (try clear hb); (try clear hb2); (try clear hk); (try clear hi)) | ((with_reducible refine gate_callee (f := 7) rfl ?_); refine goesL_ (some 34) rfl rfl Try.func7 (by kernel_rfl) rfl #[.slice A0 l0.length c0, .int .i64 4, .int .i64 0, .int .i64 t258] rfl (by (try simp only [List.map_toArray, List.map_cons, List.map_nil]); first | done | rfl | (simp only [List.length_drop, List.length_take]; rfl)) ?_; (with_reducible refine (spec_MakeSize.calls k _ _ l0 4 0 t258 t263 _ ?side1 ?side2 A7.out).mono ?_); (case side1 => repeat (first | exact (Kd.C_below HR0.out HB.out) | (with_reducible refine Kd.C_alloc ?_ _) | (with_reducible refine Kd.C_drewN ?_ _) | (with_reducible refine Kd.C_drew ?_))); (case side2 => exact HC0.out); rintro e w21 ⟨rfl, hb⟩; refine ⟨_, rfl, ?_⟩; have n0_ := Aside0.mk (blk_below (g := gb261) (o := .cells #[.int .i64 t259, .int .i64 t260] 25 (0, 0)) (by (with_reducible repeat (first | refine blk_drewN ?_ _ | refine blk_drew ?_ | refine blk_alloc ?_ _)); exact BK261.out) hb); have n1_ := Aside0.mk (below_step (by repeat (first | (with_reducible first | exact HB.out | apply below_alloc | apply pw_below_drewN | apply below_drew1 | refine below_set ?_ GE261.out) | exact HB.out)) hb); clear BK261; clear HB; have BK261 := n0_; have HB := n1_; clear n0_ n1_; (try clear hb); (try clear hb2); (try clear hk); (try clear hi)) | ((with_reducible refine gate_dst (N := 5) rfl ?_); (try (refine gate_guard (by rfl) ?_; dsimp only)); refine box_event ?hg (N := 5) ?hd (cs := #[.int .i64 0, .int .i64 0]) (t := 25) ?hr ?_; (case hd => rfl); (case hg => rfl); (case hr => first | (go_simp; done) | (go_simp; rfl)); intro gb264 hg w22 hbox hb; have n0_ := Aside0.mk (blk_below (g := gb261) (o := .cells #[.int .i64 t259, .int .i64 t260] 25 (0, 0)) (by (with_reducible repeat (first | refine blk_drewN ?_ _ | refine blk_drew ?_ | refine blk_alloc ?_ _)); exact BK261.out) hb); have n1_ := Aside0.mk (below_step (by repeat (first | (with_reducible first | exact HB.out | apply below_alloc | apply pw_below_drewN | apply below_drew1 | refine below_set ?_ GE261.out) | exact HB.out)) hb); have n2_ := Aside0.mk (hbox); have n3_ := Aside0.mk ((by rw [hg]; exact (below_size (by repeat (first | (with_reducible first | exact HB.out | apply below_alloc | apply pw_below_drewN | apply below_drew1 | refine below_set ?_ GE261.out) | exact HB.out))) : w.heap.size ≤ gb264)); have n4_ := Aside0.mk ((by rw [hg]; exact (below_size (by repeat (first | (with_reducible first | exact HB.out | apply below_alloc | apply pw_below_drewN | apply below_drew1 | refine below_set ?_ GE261.out) | exact HB.out))) : w.heap.size ≤ gb264)); have n5_ := Aside0.mk ((by rw [hg]; exact Nat.ne_of_lt (blk_lt (g := gb261) (o := .cells #[.int .i64 t259, .int .i64 t260] 25 (0, 0)) (by (with_reducible repeat (first | refine blk_drewN ?_ _ | refine blk_drew ?_ | refine blk_alloc ?_ _)); exact BK261.out)) : gb261 ≠ gb264)); have n6_ := Aside0.mk ((by rw [hg]; exact Nat.ne_of_gt (blk_lt (g := gb261) (o := .cells #[.int .i64 t259, .int .i64 t260] 25 (0, 0)) (by (with_reducible repeat (first | refine blk_drewN ?_ _ | refine blk_drew ?_ | refine blk_alloc ?_ _)); exact BK261.out)) : gb264 ≠ gb261)); clear BK261; clear HB; have BK261 := n0_; have HB := n1_; have BK264 := n2_; have GW264 := n3_; have GE264 := n4_; have NB261_264 := n5_; have NB264_261 := n6_; clear n0_ n1_ n2_ n3_ n4_ n5_ n6_; clear hb hbox hg; have hnb23 := NB264_261.out; have hnc23 := NB261_264.out; have hcz24_0 : w22.cell? ⟨gb264, 0, none⟩ = some (.int .i64 0) := (blk_cell BK264.out 0).trans rfl; have hcz24_1 : w22.cell? ⟨gb264, 1, none⟩ = some (.int .i64 0) := (blk_cell BK264.out 1).trans rfl; have hfz24_0 := blk_frozen BK264.out 0; have hfz24_1 := blk_frozen BK264.out 1) | ((with_reducible refine gate_callee (f := 7) rfl ?_); refine goesL_ (some 38) rfl rfl Try.func7 (by kernel_rfl) rfl #[.slice A0 l0.length c0, .int .i64 5, .int .i64 0, .int .i64 t258] rfl (by (try simp only [List.map_toArray, List.map_cons, List.map_nil]); first | done | rfl | (simp only [List.length_drop, List.length_take]; rfl)) ?_; (with_reducible refine (spec_MakeSize.calls k _ _ l0 5 0 t258 t265 _ ?side1 ?side2 A8.out).mono ?_); (case side1 => exact Kd.C_below HR0.out (by repeat (first | (with_reducible first | exact HB.out | apply below_alloc | apply pw_below_drewN | apply below_drew1 | refine below_set ?_ GE261.out | refine below_set ?_ GE264.out) | exact HB.out))); (case side2 => exact HC0.out); rintro e w25 ⟨rfl, hb⟩; refine ⟨_, rfl, ?_⟩; have n0_ := Aside0.mk (blk_below (g := gb261) (o := .cells #[.int .i64 t259, .int .i64 t260] 25 (0, 0)) (by (with_reducible repeat (first | refine blk_drewN ?_ _ | refine blk_drew ?_ | refine blk_alloc ?_ _)); refine blk_far ?_ NB261_264.out _; (with_reducible repeat (first | refine blk_drewN ?_ _ | refine blk_drew ?_ | refine blk_alloc ?_ _)); refine blk_far ?_ NB261_264.out _; (with_reducible repeat (first | refine blk_drewN ?_ _ | refine blk_drew ?_ | refine blk_alloc ?_ _)); exact BK261.out) hb); have n1_ := Aside0.mk (blk_below (g := gb264) (o := .cells #[.int .i64 t262, .int .i64 t263] 25 (0, 0)) (by (with_reducible repeat (first | refine blk_drewN ?_ _ | refine blk_drew ?_ | refine blk_alloc ?_ _)); refine blk_put (cs := #[.int .i64 t262, .int .i64 0]) ?_ 1 _ rfl; (with_reducible repeat (first | refine blk_drewN ?_ _ | refine blk_drew ?_ | refine blk_alloc ?_ _)); refine blk_put (cs := #[.int .i64 0, .int .i64 0]) ?_ 0 _ rfl; (with_reducible repeat (first | refine blk_drewN ?_ _ | refine blk_drew ?_ | refine blk_alloc ?_ _)); exact BK264.out) hb); have n2_ := Aside0.mk (below_step (by repeat (first | (with_reducible first | exact HB.out | apply below_alloc | apply pw_below_drewN | apply below_drew1 | refine below_set ?_ GE261.out | refine below_set ?_ GE264.out) | exact HB.out)) hb); clear BK261; clear BK264; clear HB; have BK261 := n0_; have BK264 := n1_; have HB := n2_; clear n0_ n1_ n2_; (try clear hb); (try clear hb2); (try clear hk); (try clear hi)) | ((with_reducible refine gate_callee (f := 7) rfl ?_); refine goesL_ (some 41) rfl rfl Try.func7 (by kernel_rfl) rfl #[.slice A0 l0.length c0, .int .i64 6, .int .i64 0, .int .i64 t258] rfl (by (try simp only [List.map_toArray, List.map_cons, List.map_nil]); first | done | rfl | (simp only [List.length_drop, List.length_take]; rfl)) ?_; (with_reducible refine (spec_MakeSize.calls k _ _ l0 6 0 t258 t266 _ ?side1 ?side2 A9.out).mono ?_); (case side1 => repeat (first | exact (Kd.C_below HR0.out HB.out) | (with_reducible refine Kd.C_alloc ?_ _) | (with_reducible refine Kd.C_drewN ?_ _) | (with_reducible refine Kd.C_drew ?_))); (case side2 => exact HC0.out); rintro e w26 ⟨rfl, hb⟩; refine ⟨_, rfl, ?_⟩; have n0_ := Aside0.mk (blk_below (g := gb261) (o := .cells #[.int .i64 t259, .int .i64 t260] 25 (0, 0)) (by (with_reducible repeat (first | refine blk_drewN ?_ _ | refine blk_drew ?_ | refine blk_alloc ?_ _)); exact BK261.out) hb); have n1_ := Aside0.mk (blk_below (g := gb264) (o := .cells #[.int .i64 t262, .int .i64 t263] 25 (0, 0)) (by (with_reducible repeat (first | refine blk_drewN ?_ _ | refine blk_drew ?_ | refine blk_alloc ?_ _)); exact BK264.out) hb); have n2_ := Aside0.mk (below_step (by repeat (first | (with_reducible first | exact HB.out | apply below_alloc | apply pw_below_drewN | apply below_drew1 | refine below_set ?_ GE261.out | refine below_set ?_ GE264.out) | exact HB.out)) hb); clear BK261; clear BK264; clear HB; have BK261 := n0_; have BK264 := n1_; have HB := n2_; clear n0_ n1_ n2_; (try clear hb); (try clear hb2); (try clear hk); (try clear hi)) | ((with_reducible refine gate_dst (N := 6) rfl ?_); (try (refine gate_guard (by rfl) ?_; dsimp only)); refine box_event ?hg (N := 6) ?hd (cs := #[.int .i64 0, .int .i64 0]) (t := 25) ?hr ?_; (case hd => rfl); (case hg => rfl); (case hr => first | (go_simp; done) | (go_simp; rfl)); intro gb267 hg w27 hbox hb; have n0_ := Aside0.mk (blk_below (g := gb261) (o := .cells #[.int .i64 t259, .int .i64 t260] 25 (0, 0)) (by (with_reducible repeat (first | refine blk_drewN ?_ _ | refine blk_drew ?_ | refine blk_alloc ?_ _)); exact BK261.out) hb); have n1_ := Aside0.mk (blk_below (g := gb264) (o := .cells #[.int .i64 t262, .int .i64 t263] 25 (0, 0)) (by (with_reducible repeat (first | refine blk_drewN ?_ _ | refine blk_drew ?_ | refine blk_alloc ?_ _)); exact BK264.out) hb); have n2_ := Aside0.mk (below_step (by repeat (first | (with_reducible first | exact HB.out | apply below_alloc | apply pw_below_drewN | apply below_drew1 | refine below_set ?_ GE261.out | refine below_set ?_ GE264.out) | exact HB.out)) hb); have n3_ := Aside0.mk (hbox); have n4_ := Aside0.mk ((by rw [hg]; exact (below_size (by repeat (first | (with_reducible first | exact HB.out | apply below_alloc | apply pw_below_drewN | apply below_drew1 | refine below_set ?_ GE261.out | refine below_set ?_ GE264.out) | exact HB.out))) : w.heap.size ≤ gb267)); have n5_ := Aside0.mk ((by rw [hg]; exact (below_size (by repeat (first | (with_reducible first | exact HB.out | apply below_alloc | apply pw_below_drewN | apply below_drew1 | refine below_set ?_ GE261.out | refine below_set ?_ GE264.out) | exact HB.out))) : w.heap.size ≤ gb267)); have n6_ := Aside0.mk ((by rw [hg]; exact Nat.ne_of_lt (blk_lt (g := gb261) (o := .cells #[.int .i64 t259, .int .i64 t260] 25 (0, 0)) (by (with_reducible repeat (first | refine blk_drewN ?_ _ | refine blk_drew ?_ | refine blk_alloc ?_ _)); exact BK261.out)) : gb261 ≠ gb267)); have n7_ := Aside0.mk ((by rw [hg]; exact Nat.ne_of_gt (blk_lt (g := gb261) (o := .cells #[.int .i64 t259, .int .i64 t260] 25 (0, 0)) (by (with_reducible repeat (first | refine blk_drewN ?_ _ | refine blk_drew ?_ | refine blk_alloc ?_ _)); exact BK261.out)) : gb267 ≠ gb261)); have n8_ := Aside0.mk ((by rw [hg]; exact Nat.ne_of_lt (blk_lt (g := gb264) (o := .cells #[.int .i64 t262, .int .i64 t263] 25 (0, 0)) (by (with_reducible repeat (first | refine blk_drewN ?_ _ | refine blk_drew ?_ | refine blk_alloc ?_ _)); exact BK264.out)) : gb264 ≠ gb267)); have n9_ := Aside0.mk ((by rw [hg]; exact Nat.ne_of_gt (blk_lt (g := gb264) (o := .cells #[.int .i64 t262, .int .i64 t263] 25 (0, 0)) (by (with_reducible repeat (first | refine blk_drewN ?_ _ | refine blk_drew ?_ | refine blk_alloc ?_ _)); exact BK264.out)) : gb267 ≠ gb264)); clear BK261; clear BK264; clear HB; have BK261 := n0_; have BK264 := n1_; have HB := n2_; have BK267 := n3_; have GW267 := n4_; have GE267 := n5_; have NB261_267 := n6_; have NB267_261 := n7_; have NB264_267 := n8_; have NB267_264 := n9_; clear n0_ n1_ n2_ n3_ n4_ n5_ n6_ n7_ n8_ n9_; clear hb hbox hg; have hnb28 := NB267_261.out; have hnc28 := NB261_267.out; have hnb29 := NB267_264.out; have hnc29 := NB264_267.out; have hcz30_0 : w27.cell? ⟨gb267, 0, none⟩ = some (.int .i64 0) := (blk_cell BK267.out 0).trans rfl; have hcz30_1 : w27.cell? ⟨gb267, 1, none⟩ = some (.int .i64 0) := (blk_cell BK267.out 1).trans rfl; have hfz30_0 := blk_frozen BK267.out 0; have hfz30_1 := blk_frozen BK267.out 1; have hcz31_0 : w27.cell? ⟨gb261, 0, none⟩ = some (.int .i64 t259) := (blk_cell BK261.out 0).trans rfl; have hcz31_1 : w27.cell? ⟨gb261, 1, none⟩ = some (.int .i64 t260) := (blk_cell BK261.out 1).trans rfl; have hfz31_0 := blk_frozen BK261.out 0; have hfz31_1 := blk_frozen BK261.out 1; have hcz32_0 : w27.cell? ⟨gb264, 0, none⟩ = some (.int .i64 t262) := (blk_cell BK264.out 0).trans rfl; have hcz32_1 : w27.cell? ⟨gb264, 1, none⟩ = some (.int .i64 t263) := (blk_cell BK264.out 1).trans rfl; have hfz32_0 := blk_frozen BK264.out 0; have hfz32_1 := blk_frozen BK264.out 1) | ((with_reducible refine gate_callee (f := 8) rfl ?_); refine goesL_ (some 46) rfl rfl Try.func8 (by kernel_rfl) rfl #[.int .i64 t258, .agg #[.int .i64 t259, .int .i64 t260], .agg #[.int .i64 t262, .int .i64 t263]] rfl (by (try simp only [List.map_toArray, List.map_cons, List.map_nil]); first | done | rfl | (simp only [List.length_drop, List.length_take]; rfl)) ?_; (with_reducible refine (impl_ColorsOn.calls k t258 t259 t260 t262 t263 t268 _ A10.out).mono ?_); rintro e w33 ⟨v269, rfl, ho0, hb⟩; refine ⟨_, rfl, ?_⟩; have n0_ := Aside0.mk (Kd.R_lower ho0 (below_size (by repeat (first | (with_reducible first | exact HB.out | apply below_alloc | apply pw_below_drewN | apply below_drew1 | refine below_set ?_ GE261.out | refine below_set ?_ GE264.out | refine below_set ?_ GE267.out) | exact HB.out)))); have n1_ := Aside0.mk (blk_below (g := gb261) (o := .cells #[.int .i64 t259, .int .i64 t260] 25 (0, 0)) (by (with_reducible repeat (first | refine blk_drewN ?_ _ | refine blk_drew ?_ | refine blk_alloc ?_ _)); refine blk_far ?_ NB261_267.out _; (with_reducible repeat (first | refine blk_drewN ?_ _ | refine blk_drew ?_ | refine blk_alloc ?_ _)); refine blk_far ?_ NB261_267.out _; (with_reducible repeat (first | refine blk_drewN ?_ _ | refine blk_drew ?_ | refine blk_alloc ?_ _)); exact BK261.out) hb); have n2_ := Aside0.mk (blk_below (g := gb264) (o := .cells #[.int .i64 t262, .int .i64 t263] 25 (0, 0)) (by (with_reducible repeat (first | refine blk_drewN ?_ _ | refine blk_drew ?_ | refine blk_alloc ?_ _)); refine blk_far ?_ NB264_267.out _; (with_reducible repeat (first | refine blk_drewN ?_ _ | refine blk_drew ?_ | refine blk_alloc ?_ _)); refine blk_far ?_ NB264_267.out _; (with_reducible repeat (first | refine blk_drewN ?_ _ | refine blk_drew ?_ | refine blk_alloc ?_ _)); exact BK264.out) hb); have n3_ := Aside0.mk (blk_below (g := gb267) (o := .cells #[.int .i64 t265, .int .i64 t266] 25 (0, 0)) (by (with_reducible repeat (first | refine blk_drewN ?_ _ | refine blk_drew ?_ | refine blk_alloc ?_ _)); refine blk_put (cs := #[.int .i64 t265, .int .i64 0]) ?_ 1 _ rfl; (with_reducible repeat (first | refine blk_drewN ?_ _ | refine blk_drew ?_ | refine blk_alloc ?_ _)); refine blk_put (cs := #[.int .i64 0, .int .i64 0]) ?_ 0 _ rfl; (with_reducible repeat (first | refine blk_drewN ?_ _ | refine blk_drew ?_ | refine blk_alloc ?_ _)); exact BK267.out) hb); have n4_ := Aside0.mk (below_step (by repeat (first | (with_reducible first | exact HB.out | apply below_alloc | apply pw_below_drewN | apply below_drew1 | refine below_set ?_ GE261.out | refine below_set ?_ GE264.out | refine below_set ?_ GE267.out) | exact HB.out)) hb); clear BK261; clear BK264; clear BK267; clear HB; have HO270 := n0_; have BK261 := n1_; have BK264 := n2_; have BK267 := n3_; have HB := n4_; clear n0_ n1_ n2_ n3_ n4_; (try clear hb); (try clear hb2); (try clear hk); (try clear hi); (try clear ho0); have hcz34_0 : w33.cell? ⟨gb261, 0, none⟩ = some (.int .i64 t259) := (blk_cell BK261.out 0).trans rfl; have hcz34_1 : w33.cell? ⟨gb261, 1, none⟩ = some (.int .i64 t260) := (blk_cell BK261.out 1).trans rfl; have hfz34_0 := blk_frozen BK261.out 0; have hfz34_1 := blk_frozen BK261.out 1) | ((with_reducible refine gate_callee (f := 9) rfl ?_); refine goesL_ (some 49) rfl rfl Try.func9 (by kernel_rfl) rfl #[.int .i64 t258, .agg #[.int .i64 t259, .int .i64 t260]] rfl (by (try simp only [List.map_toArray, List.map_cons, List.map_nil]); first | done | rfl | (simp only [List.length_drop, List.length_take]; rfl)) ?_; (with_reducible refine (impl_ColorOf.calls k t258 t259 t260 t271 _ A11.out).mono ?_); rintro e w35 ⟨rfl, hb⟩; refine ⟨_, rfl, ?_⟩; have n0_ := Aside0.mk (Kd.R_below (by (with_reducible repeat (first | apply Kd.R_alloc | apply Kd.R_drewN | apply Kd.R_drew)); exact HO270.out) hb); have n1_ := Aside0.mk (blk_below (g := gb261) (o := .cells #[.int .i64 t259, .int .i64 t260] 25 (0, 0)) (by (with_reducible repeat (first | refine blk_drewN ?_ _ | refine blk_drew ?_ | refine blk_alloc ?_ _)); exact BK261.out) hb); have n2_ := Aside0.mk (blk_below (g := gb264) (o := .cells #[.int .i64 t262, .int .i64 t263] 25 (0, 0)) (by (with_reducible repeat (first | refine blk_drewN ?_ _ | refine blk_drew ?_ | refine blk_alloc ?_ _)); exact BK264.out) hb); have n3_ := Aside0.mk (blk_below (g := gb267) (o := .cells #[.int .i64 t265, .int .i64 t266] 25 (0, 0)) (by (with_reducible repeat (first | refine blk_drewN ?_ _ | refine blk_drew ?_ | refine blk_alloc ?_ _)); exact BK267.out) hb); have n4_ := Aside0.mk (below_step (by repeat (first | (with_reducible first | exact HB.out | apply below_alloc | apply pw_below_drewN | apply below_drew1 | refine below_set ?_ GE261.out | refine below_set ?_ GE264.out | refine below_set ?_ GE267.out) | exact HB.out)) hb); clear HO270; clear BK261; clear BK264; clear BK267; clear HB; have HO270 := n0_; have BK261 := n1_; have BK264 := n2_; have BK267 := n3_; have HB := n4_; clear n0_ n1_ n2_ n3_ n4_; (try clear hb); (try clear hb2); (try clear hk); (try clear hi); have hcz36_0 : w35.cell? ⟨gb264, 0, none⟩ = some (.int .i64 t262) := (blk_cell BK264.out 0).trans rfl; have hcz36_1 : w35.cell? ⟨gb264, 1, none⟩ = some (.int .i64 t263) := (blk_cell BK264.out 1).trans rfl; have hfz36_0 := blk_frozen BK264.out 0; have hfz36_1 := blk_frozen BK264.out 1) | ((with_reducible refine gate_callee (f := 9) rfl ?_); refine goesL_ (some 52) rfl rfl Try.func9 (by kernel_rfl) rfl #[.int .i64 t258, .agg #[.int .i64 t262, .int .i64 t263]] rfl (by (try simp only [List.map_toArray, List.map_cons, List.map_nil]); first | done | rfl | (simp only [List.length_drop, List.length_take]; rfl)) ?_; (with_reducible refine (impl_ColorOf.calls k t258 t262 t263 t272 _ A12.out).mono ?_); rintro e w37 ⟨rfl, hb⟩; refine ⟨_, rfl, ?_⟩; have n0_ := Aside0.mk (Kd.R_below (by (with_reducible repeat (first | apply Kd.R_alloc | apply Kd.R_drewN | apply Kd.R_drew)); exact HO270.out) hb); have n1_ := Aside0.mk (blk_below (g := gb261) (o := .cells #[.int .i64 t259, .int .i64 t260] 25 (0, 0)) (by (with_reducible repeat (first | refine blk_drewN ?_ _ | refine blk_drew ?_ | refine blk_alloc ?_ _)); exact BK261.out) hb); have n2_ := Aside0.mk (blk_below (g := gb264) (o := .cells #[.int .i64 t262, .int .i64 t263] 25 (0, 0)) (by (with_reducible repeat (first | refine blk_drewN ?_ _ | refine blk_drew ?_ | refine blk_alloc ?_ _)); exact BK264.out) hb); have n3_ := Aside0.mk (blk_below (g := gb267) (o := .cells #[.int .i64 t265, .int .i64 t266] 25 (0, 0)) (by (with_reducible repeat (first | refine blk_drewN ?_ _ | refine blk_drew ?_ | refine blk_alloc ?_ _)); exact BK267.out) hb); have n4_ := Aside0.mk (below_step (by repeat (first | (with_reducible first | exact HB.out | apply below_alloc | apply pw_below_drewN | apply below_drew1 | refine below_set ?_ GE261.out | refine below_set ?_ GE264.out | refine below_set ?_ GE267.out) | exact HB.out)) hb); clear HO270; clear BK261; clear BK264; clear BK267; clear HB; have HO270 := n0_; have BK261 := n1_; have BK264 := n2_; have BK267 := n3_; have HB := n4_; clear n0_ n1_ n2_ n3_ n4_; (try clear hb); (try clear hb2); (try clear hk); (try clear hi); have hcz38_0 : w37.cell? ⟨gb267, 0, none⟩ = some (.int .i64 t265) := (blk_cell BK267.out 0).trans rfl; have hcz38_1 : w37.cell? ⟨gb267, 1, none⟩ = some (.int .i64 t266) := (blk_cell BK267.out 1).trans rfl; have hfz38_0 := blk_frozen BK267.out 0; have hfz38_1 := blk_frozen BK267.out 1) | ((with_reducible refine gate_callee (f := 9) rfl ?_); refine goesL_ (some 55) rfl rfl Try.func9 (by kernel_rfl) rfl #[.int .i64 t258, .agg #[.int .i64 t265, .int .i64 t266]] rfl (by (try simp only [List.map_toArray, List.map_cons, List.map_nil]); first | done | rfl | (simp only [List.length_drop, List.length_take]; rfl)) ?_; (with_reducible refine (impl_ColorOf.calls k t258 t265 t266 t273 _ A13.out).mono ?_); rintro e w39 ⟨rfl, hb⟩; refine ⟨_, rfl, ?_⟩; have n0_ := Aside0.mk (Kd.R_below (by (with_reducible repeat (first | apply Kd.R_alloc | apply Kd.R_drewN | apply Kd.R_drew)); exact HO270.out) hb); have n1_ := Aside0.mk (blk_below (g := gb261) (o := .cells #[.int .i64 t259, .int .i64 t260] 25 (0, 0)) (by (with_reducible repeat (first | refine blk_drewN ?_ _ | refine blk_drew ?_ | refine blk_alloc ?_ _)); exact BK261.out) hb); have n2_ := Aside0.mk (blk_below (g := gb264) (o := .cells #[.int .i64 t262, .int .i64 t263] 25 (0, 0)) (by (with_reducible repeat (first | refine blk_drewN ?_ _ | refine blk_drew ?_ | refine blk_alloc ?_ _)); exact BK264.out) hb); have n3_ := Aside0.mk (blk_below (g := gb267) (o := .cells #[.int .i64 t265, .int .i64 t266] 25 (0, 0)) (by (with_reducible repeat (first | refine blk_drewN ?_ _ | refine blk_drew ?_ | refine blk_alloc ?_ _)); exact BK267.out) hb); have n4_ := Aside0.mk (below_step (by repeat (first | (with_reducible first | exact HB.out | apply below_alloc | apply pw_below_drewN | apply below_drew1 | refine below_set ?_ GE261.out | refine below_set ?_ GE264.out | refine below_set ?_ GE267.out) | exact HB.out)) hb); clear HO270; clear BK261; clear BK264; clear BK267; clear HB; have HO270 := n0_; have BK261 := n1_; have BK264 := n2_; have BK267 := n3_; have HB := n4_; clear n0_ n1_ n2_ n3_ n4_; (try clear hb); (try clear hb2); (try clear hk); (try clear hi)))
  (try simp only [Act.put, List.setIfInBounds_toArray, List.set_cons_zero, List.set_cons_succ]); go_cut [104] (fun v104 wc => ∃ (kq : Nat) (x104_13 : Bool), v104 = .bool x104_13 ∧ Aside0 (laws_FnColors.j0 kq l0 t258 x104_13 t259 t260 t262 t263 t265 t266 = some r) ∧ Aside0 (kq ≤ k) ∧ Aside0 (wc.heap[gb261]? = some (.cells #[.int .i64 t259, .int .i64 t260] 25 (0, 0))) ∧ Aside0 (wc.heap[gb264]? = some (.cells #[.int .i64 t262, .int .i64 t263] 25 (0, 0))) ∧ Aside0 (wc.heap[gb267]? = some (.cells #[.int .i64 t265, .int .i64 t266] 25 (0, 0))) ∧ Aside0 (Below w.heap.size w wc))
  case first =>
   have H := HC14.out; clear HC14; by_cases c40 : (t268.length : Int) < 1
   ·rw [if_pos c40] at H
    have c40b0 : decide ((t268.length : Int) < 1) = true := decide_eq_true c40; have c40b1 : decide (t268.length < 1) = true := decide_eq_true (by omega); clear c40; (first | rw [c40b0] | (simp only [i64_w, i32_w]; rw [c40b0]) | skip)
    have H' := Aside0.mk H; clear H; obtain ⟨Ao41, co41, eo41⟩ := Kd.R_slice HO270.out; subst eo41
    go_wp2
    go_meet
    case rel => exact ⟨_, (true), (by first | rfl | (simp; done) | (simp [*]; done)), H', ⟨by first | omega | exact Nat.le_refl _⟩, ⟨by (with_reducible repeat (first | refine blk_drewN ?_ _ | refine blk_drew ?_ | refine blk_alloc ?_ _)); exact BK261.out⟩, ⟨by (with_reducible repeat (first | refine blk_drewN ?_ _ | refine blk_drew ?_ | refine blk_alloc ?_ _)); exact BK264.out⟩, ⟨by (with_reducible repeat (first | refine blk_drewN ?_ _ | refine blk_drew ?_ | refine blk_alloc ?_ _)); exact BK267.out⟩, ⟨by repeat (first | (with_reducible first | exact HB.out | apply below_alloc | apply pw_below_drewN | apply below_drew1 | refine below_set ?_ GE261.out | refine below_set ?_ GE264.out | refine below_set ?_ GE267.out) | exact HB.out)⟩⟩
   ·rw [if_neg c40] at H
    have c40b0 : decide ((t268.length : Int) < 1) = false := decide_eq_false c40; have c40b1 : decide (t268.length < 1) = false := decide_eq_false (by omega); clear c40; (first | rw [c40b0] | (simp only [i64_w, i32_w]; rw [c40b0]) | skip)
    by_cases c42 : (t268.length : Int) > 2
    ·rw [if_pos c42] at H
     have c42b0 : decide (2 < (t268.length : Int)) = true := decide_eq_true c42; have c42b1 : decide (2 < t268.length) = true := decide_eq_true (by omega); clear c42; have H' := Aside0.mk H; clear H; obtain ⟨Ao43, co43, eo43⟩ := Kd.R_slice HO270.out; subst eo43
     go_wp2
     go_meet
     case rel => exact ⟨_, (true), (by first | rfl | (simp; done) | (simp [*]; done)), H', ⟨by first | omega | exact Nat.le_refl _⟩, ⟨by (with_reducible repeat (first | refine blk_drewN ?_ _ | refine blk_drew ?_ | refine blk_alloc ?_ _)); exact BK261.out⟩, ⟨by (with_reducible repeat (first | refine blk_drewN ?_ _ | refine blk_drew ?_ | refine blk_alloc ?_ _)); exact BK264.out⟩, ⟨by (with_reducible repeat (first | refine blk_drewN ?_ _ | refine blk_drew ?_ | refine blk_alloc ?_ _)); exact BK267.out⟩, ⟨by repeat (first | (with_reducible first | exact HB.out | apply below_alloc | apply pw_below_drewN | apply below_drew1 | refine below_set ?_ GE261.out | refine below_set ?_ GE264.out | refine below_set ?_ GE267.out) | exact HB.out)⟩⟩
    ·rw [if_neg c42] at H
     have c42b0 : decide (2 < (t268.length : Int)) = false := decide_eq_false c42; have c42b1 : decide (2 < t268.length) = false := decide_eq_false (by omega); clear c42; replace H := Option.bind_eq_some_iff.mp H; obtain ⟨t274, A440, H⟩ := H; replace H : (if t274 = true then ((laws_has.f k t268 t272).bind fun t275 => (if t275 = true then (if t273 < 0 then (laws_FnColors.j0 k l0 t258 true t259 t260 t262 t263 t265 t266) else (if t273 > 2 then (laws_FnColors.j0 k l0 t258 true t259 t260 t262 t263 t265 t266) else ((impl_IsRainbow.f k t258 t259 t260 t262 t263 t265 t266).bind fun t276 => (if t271 = t272 then (laws_FnColors.j0 k l0 t258 (t276 != false) t259 t260 t262 t263 t265 t266) else (if t272 = t273 then (laws_FnColors.j0 k l0 t258 (t276 != false) t259 t260 t262 t263 t265 t266) else (laws_FnColors.j0 k l0 t258 (t276 != (t271 != t273)) t259 t260 t262 t263 t265 t266)))))) else (laws_FnColors.j0 k l0 t258 true t259 t260 t262 t263 t265 t266))) else (laws_FnColors.j0 k l0 t258 true t259 t260 t262 t263 t265 t266)) = some r := H; have A44 := Aside0.mk A440; clear A440; by_cases c45 : t274 = true
     ·subst c45
      have H1 : ((laws_has.f k t268 t272).bind fun t275 => (if t275 = true then (if t273 < 0 then (laws_FnColors.j0 k l0 t258 true t259 t260 t262 t263 t265 t266) else (if t273 > 2 then (laws_FnColors.j0 k l0 t258 true t259 t260 t262 t263 t265 t266) else ((impl_IsRainbow.f k t258 t259 t260 t262 t263 t265 t266).bind fun t276 => (if t271 = t272 then (laws_FnColors.j0 k l0 t258 (t276 != false) t259 t260 t262 t263 t265 t266) else (if t272 = t273 then (laws_FnColors.j0 k l0 t258 (t276 != false) t259 t260 t262 t263 t265 t266) else (laws_FnColors.j0 k l0 t258 (t276 != (t271 != t273)) t259 t260 t262 t263 t265 t266)))))) else (laws_FnColors.j0 k l0 t258 true t259 t260 t262 t263 t265 t266))) = some r := by rw [if_pos rfl] at H; exact H
      clear H; have H := H1; clear H1; replace H := Option.bind_eq_some_iff.mp H; obtain ⟨t275, A460, H⟩ := H; replace H : (if t275 = true then (if t273 < 0 then (laws_FnColors.j0 k l0 t258 true t259 t260 t262 t263 t265 t266) else (if t273 > 2 then (laws_FnColors.j0 k l0 t258 true t259 t260 t262 t263 t265 t266) else ((impl_IsRainbow.f k t258 t259 t260 t262 t263 t265 t266).bind fun t276 => (if t271 = t272 then (laws_FnColors.j0 k l0 t258 (t276 != false) t259 t260 t262 t263 t265 t266) else (if t272 = t273 then (laws_FnColors.j0 k l0 t258 (t276 != false) t259 t260 t262 t263 t265 t266) else (laws_FnColors.j0 k l0 t258 (t276 != (t271 != t273)) t259 t260 t262 t263 t265 t266)))))) else (laws_FnColors.j0 k l0 t258 true t259 t260 t262 t263 t265 t266)) = some r := H; have A46 := Aside0.mk A460; clear A460; by_cases c47 : t275 = true
      ·subst c47
       have H1 : (if t273 < 0 then (laws_FnColors.j0 k l0 t258 true t259 t260 t262 t263 t265 t266) else (if t273 > 2 then (laws_FnColors.j0 k l0 t258 true t259 t260 t262 t263 t265 t266) else ((impl_IsRainbow.f k t258 t259 t260 t262 t263 t265 t266).bind fun t276 => (if t271 = t272 then (laws_FnColors.j0 k l0 t258 (t276 != false) t259 t260 t262 t263 t265 t266) else (if t272 = t273 then (laws_FnColors.j0 k l0 t258 (t276 != false) t259 t260 t262 t263 t265 t266) else (laws_FnColors.j0 k l0 t258 (t276 != (t271 != t273)) t259 t260 t262 t263 t265 t266)))))) = some r := by rw [if_pos rfl] at H; exact H
       clear H; have H := H1; clear H1; by_cases c48 : t273 < 0
       ·rw [if_pos c48] at H
        have c48b0 : decide (t273 < 0) = true := decide_eq_true c48; clear c48; have H' := Aside0.mk H; clear H; obtain ⟨Ao49, co49, eo49⟩ := Kd.R_slice HO270.out; subst eo49
        go_wp2_with (first | (go_at_call 10; (with_reducible refine (laws_has.calls k _ _ t268 t271 true _ ?side1 ?side2 A44.out).mono ?_); (case side1 => repeat (first | exact (Kd.R_reads' HO270.out).2.2 | (with_reducible refine Kd.C_alloc ?_ _) | (with_reducible refine Kd.C_drewN ?_ _) | (with_reducible refine Kd.C_drew ?_))); (case side2 => exact (Kd.R_reads' HO270.out).2.1); rintro e w' ⟨rfl, ⟨nd, rfl⟩⟩) | (go_at_call 10; (with_reducible refine (laws_has.calls k _ _ t268 t272 true _ ?side1 ?side2 A46.out).mono ?_); (case side1 => repeat (first | exact (Kd.R_reads' HO270.out).2.2 | (with_reducible refine Kd.C_alloc ?_ _) | (with_reducible refine Kd.C_drewN ?_ _) | (with_reducible refine Kd.C_drew ?_))); (case side2 => exact (Kd.R_reads' HO270.out).2.1); rintro e w' ⟨rfl, ⟨nd, rfl⟩⟩))
        go_meet
        case rel => exact ⟨_, (true), (by first | rfl | (simp; done) | (simp [*]; done)), H', ⟨by first | omega | exact Nat.le_refl _⟩, ⟨by (with_reducible repeat (first | refine blk_drewN ?_ _ | refine blk_drew ?_ | refine blk_alloc ?_ _)); exact BK261.out⟩, ⟨by (with_reducible repeat (first | refine blk_drewN ?_ _ | refine blk_drew ?_ | refine blk_alloc ?_ _)); exact BK264.out⟩, ⟨by (with_reducible repeat (first | refine blk_drewN ?_ _ | refine blk_drew ?_ | refine blk_alloc ?_ _)); exact BK267.out⟩, ⟨by repeat (first | (with_reducible first | exact HB.out | apply below_alloc | apply pw_below_drewN | apply below_drew1 | refine below_set ?_ GE261.out | refine below_set ?_ GE264.out | refine below_set ?_ GE267.out) | exact HB.out)⟩⟩
       ·rw [if_neg c48] at H
        have c48b0 : decide (t273 < 0) = false := decide_eq_false c48; clear c48; by_cases c50 : t273 > 2
        ·rw [if_pos c50] at H
         have c50b0 : decide (2 < t273) = true := decide_eq_true c50; clear c50; have H' := Aside0.mk H; clear H; obtain ⟨Ao51, co51, eo51⟩ := Kd.R_slice HO270.out; subst eo51
         go_wp2_with (first | (go_at_call 10; (with_reducible refine (laws_has.calls k _ _ t268 t271 true _ ?side1 ?side2 A44.out).mono ?_); (case side1 => repeat (first | exact (Kd.R_reads' HO270.out).2.2 | (with_reducible refine Kd.C_alloc ?_ _) | (with_reducible refine Kd.C_drewN ?_ _) | (with_reducible refine Kd.C_drew ?_))); (case side2 => exact (Kd.R_reads' HO270.out).2.1); rintro e w' ⟨rfl, ⟨nd, rfl⟩⟩) | (go_at_call 10; (with_reducible refine (laws_has.calls k _ _ t268 t272 true _ ?side1 ?side2 A46.out).mono ?_); (case side1 => repeat (first | exact (Kd.R_reads' HO270.out).2.2 | (with_reducible refine Kd.C_alloc ?_ _) | (with_reducible refine Kd.C_drewN ?_ _) | (with_reducible refine Kd.C_drew ?_))); (case side2 => exact (Kd.R_reads' HO270.out).2.1); rintro e w' ⟨rfl, ⟨nd, rfl⟩⟩))
         go_meet
         case rel => exact ⟨_, (true), (by first | rfl | (simp; done) | (simp [*]; done)), H', ⟨by first | omega | exact Nat.le_refl _⟩, ⟨by (with_reducible repeat (first | refine blk_drewN ?_ _ | refine blk_drew ?_ | refine blk_alloc ?_ _)); exact BK261.out⟩, ⟨by (with_reducible repeat (first | refine blk_drewN ?_ _ | refine blk_drew ?_ | refine blk_alloc ?_ _)); exact BK264.out⟩, ⟨by (with_reducible repeat (first | refine blk_drewN ?_ _ | refine blk_drew ?_ | refine blk_alloc ?_ _)); exact BK267.out⟩, ⟨by repeat (first | (with_reducible first | exact HB.out | apply below_alloc | apply pw_below_drewN | apply below_drew1 | refine below_set ?_ GE261.out | refine below_set ?_ GE264.out | refine below_set ?_ GE267.out) | exact HB.out)⟩⟩
        ·rw [if_neg c50] at H
         have c50b0 : decide (2 < t273) = false := decide_eq_false c50; clear c50; replace H := Option.bind_eq_some_iff.mp H; obtain ⟨t276, A520, H⟩ := H; replace H : (if t271 = t272 then (laws_FnColors.j0 k l0 t258 (t276 != false) t259 t260 t262 t263 t265 t266) else (if t272 = t273 then (laws_FnColors.j0 k l0 t258 (t276 != false) t259 t260 t262 t263 t265 t266) else (laws_FnColors.j0 k l0 t258 (t276 != (t271 != t273)) t259 t260 t262 t263 t265 t266))) = some r := H; have A52 := Aside0.mk A520; clear A520; by_cases c53 : t271 = t272
         ·rw [if_pos c53] at H
          have c53b0 : (t271 == t272) = true := beq_iff_eq.mpr c53; have c53b1 : (t271 != t272) = false := bne_eq_false_iff_eq.mpr c53; clear c53; have H' := Aside0.mk H; clear H; obtain ⟨Ao54, co54, eo54⟩ := Kd.R_slice HO270.out; subst eo54
          go_wp2_with (first | (go_at_call 10; (with_reducible refine (laws_has.calls k _ _ t268 t271 true _ ?side1 ?side2 A44.out).mono ?_); (case side1 => repeat (first | exact (Kd.R_reads' HO270.out).2.2 | (with_reducible refine Kd.C_alloc ?_ _) | (with_reducible refine Kd.C_drewN ?_ _) | (with_reducible refine Kd.C_drew ?_))); (case side2 => exact (Kd.R_reads' HO270.out).2.1); rintro e w' ⟨rfl, ⟨nd, rfl⟩⟩) | (go_at_call 10; (with_reducible refine (laws_has.calls k _ _ t268 t272 true _ ?side1 ?side2 A46.out).mono ?_); (case side1 => repeat (first | exact (Kd.R_reads' HO270.out).2.2 | (with_reducible refine Kd.C_alloc ?_ _) | (with_reducible refine Kd.C_drewN ?_ _) | (with_reducible refine Kd.C_drew ?_))); (case side2 => exact (Kd.R_reads' HO270.out).2.1); rintro e w' ⟨rfl, ⟨nd, rfl⟩⟩; have hnb55 := NB261_264.out; have hnc55 := NB264_261.out; have hnb56 := NB261_267.out; have hnc56 := NB267_261.out; have hcz57_0 : w39.cell? ⟨gb261, 0, none⟩ = some (.int .i64 t259) := (blk_cell BK261.out 0).trans rfl; have hcz57_1 : w39.cell? ⟨gb261, 1, none⟩ = some (.int .i64 t260) := (blk_cell BK261.out 1).trans rfl; have hfz57_0 := blk_frozen BK261.out 0; have hfz57_1 := blk_frozen BK261.out 1; have hnb58 := NB264_267.out; have hnc58 := NB267_264.out; have hcz59_0 : w39.cell? ⟨gb264, 0, none⟩ = some (.int .i64 t262) := (blk_cell BK264.out 0).trans rfl; have hcz59_1 : w39.cell? ⟨gb264, 1, none⟩ = some (.int .i64 t263) := (blk_cell BK264.out 1).trans rfl; have hfz59_0 := blk_frozen BK264.out 0; have hfz59_1 := blk_frozen BK264.out 1; have hcz60_0 : w39.cell? ⟨gb267, 0, none⟩ = some (.int .i64 t265) := (blk_cell BK267.out 0).trans rfl; have hcz60_1 : w39.cell? ⟨gb267, 1, none⟩ = some (.int .i64 t266) := (blk_cell BK267.out 1).trans rfl; have hfz60_0 := blk_frozen BK267.out 0; have hfz60_1 := blk_frozen BK267.out 1) | (go_at_call 11; (with_reducible refine (impl_IsRainbow.calls k t258 t259 t260 t262 t263 t265 t266 t276 _ A52.out).mono ?_); rintro e w61 ⟨rfl, hb⟩; have n0_ := Aside0.mk (Kd.R_below (by (with_reducible repeat (first | apply Kd.R_alloc | apply Kd.R_drewN | apply Kd.R_drew)); exact HO270.out) hb); have n1_ := Aside0.mk (blk_below (g := gb261) (o := .cells #[.int .i64 t259, .int .i64 t260] 25 (0, 0)) (by (with_reducible repeat (first | refine blk_drewN ?_ _ | refine blk_drew ?_ | refine blk_alloc ?_ _)); exact BK261.out) hb); have n2_ := Aside0.mk (blk_below (g := gb264) (o := .cells #[.int .i64 t262, .int .i64 t263] 25 (0, 0)) (by (with_reducible repeat (first | refine blk_drewN ?_ _ | refine blk_drew ?_ | refine blk_alloc ?_ _)); exact BK264.out) hb); have n3_ := Aside0.mk (blk_below (g := gb267) (o := .cells #[.int .i64 t265, .int .i64 t266] 25 (0, 0)) (by (with_reducible repeat (first | refine blk_drewN ?_ _ | refine blk_drew ?_ | refine blk_alloc ?_ _)); exact BK267.out) hb); have n4_ := Aside0.mk (below_step (by repeat (first | (with_reducible first | exact HB.out | apply below_alloc | apply pw_below_drewN | apply below_drew1 | refine below_set ?_ GE261.out | refine below_set ?_ GE264.out | refine below_set ?_ GE267.out) | exact HB.out)) hb); clear HO270; clear BK261; clear BK264; clear BK267; clear HB; have HO270 := n0_; have BK261 := n1_; have BK264 := n2_; have BK267 := n3_; have HB := n4_; clear n0_ n1_ n2_ n3_ n4_; (try clear hb); (try clear hb2); (try clear hk); (try clear hi)))
          go_meet
          case rel => exact ⟨_, ((t276 != false)), (by first | rfl | (simp; done) | (simp [*]; done)), H', ⟨by first | omega | exact Nat.le_refl _⟩, ⟨by (with_reducible repeat (first | refine blk_drewN ?_ _ | refine blk_drew ?_ | refine blk_alloc ?_ _)); exact BK261.out⟩, ⟨by (with_reducible repeat (first | refine blk_drewN ?_ _ | refine blk_drew ?_ | refine blk_alloc ?_ _)); exact BK264.out⟩, ⟨by (with_reducible repeat (first | refine blk_drewN ?_ _ | refine blk_drew ?_ | refine blk_alloc ?_ _)); exact BK267.out⟩, ⟨by repeat (first | (with_reducible first | exact HB.out | apply below_alloc | apply pw_below_drewN | apply below_drew1 | refine below_set ?_ GE261.out | refine below_set ?_ GE264.out | refine below_set ?_ GE267.out) | exact HB.out)⟩⟩
         ·rw [if_neg c53] at H
          have c53b0 : (t271 == t272) = false := beq_eq_false_iff_ne.mpr c53; have c53b1 : (t271 != t272) = true := bne_iff_ne.mpr c53; by_cases c62 : t272 = t273
          ·rw [if_pos c62] at H
           have c62b0 : (t272 == t273) = true := beq_iff_eq.mpr c62; have c62b1 : (t272 != t273) = false := bne_eq_false_iff_eq.mpr c62; clear c62; have H' := Aside0.mk H; clear H; obtain ⟨Ao63, co63, eo63⟩ := Kd.R_slice HO270.out; subst eo63
           go_wp2_with (first | (go_at_call 10; (with_reducible refine (laws_has.calls k _ _ t268 t271 true _ ?side1 ?side2 A44.out).mono ?_); (case side1 => repeat (first | exact (Kd.R_reads' HO270.out).2.2 | (with_reducible refine Kd.C_alloc ?_ _) | (with_reducible refine Kd.C_drewN ?_ _) | (with_reducible refine Kd.C_drew ?_))); (case side2 => exact (Kd.R_reads' HO270.out).2.1); rintro e w' ⟨rfl, ⟨nd, rfl⟩⟩) | (go_at_call 10; (with_reducible refine (laws_has.calls k _ _ t268 t272 true _ ?side1 ?side2 A46.out).mono ?_); (case side1 => repeat (first | exact (Kd.R_reads' HO270.out).2.2 | (with_reducible refine Kd.C_alloc ?_ _) | (with_reducible refine Kd.C_drewN ?_ _) | (with_reducible refine Kd.C_drew ?_))); (case side2 => exact (Kd.R_reads' HO270.out).2.1); rintro e w' ⟨rfl, ⟨nd, rfl⟩⟩; have hnb64 := NB261_264.out; have hnc64 := NB264_261.out; have hnb65 := NB261_267.out; have hnc65 := NB267_261.out; have hcz66_0 : w39.cell? ⟨gb261, 0, none⟩ = some (.int .i64 t259) := (blk_cell BK261.out 0).trans rfl; have hcz66_1 : w39.cell? ⟨gb261, 1, none⟩ = some (.int .i64 t260) := (blk_cell BK261.out 1).trans rfl; have hfz66_0 := blk_frozen BK261.out 0; have hfz66_1 := blk_frozen BK261.out 1; have hnb67 := NB264_267.out; have hnc67 := NB267_264.out; have hcz68_0 : w39.cell? ⟨gb264, 0, none⟩ = some (.int .i64 t262) := (blk_cell BK264.out 0).trans rfl; have hcz68_1 : w39.cell? ⟨gb264, 1, none⟩ = some (.int .i64 t263) := (blk_cell BK264.out 1).trans rfl; have hfz68_0 := blk_frozen BK264.out 0; have hfz68_1 := blk_frozen BK264.out 1; have hcz69_0 : w39.cell? ⟨gb267, 0, none⟩ = some (.int .i64 t265) := (blk_cell BK267.out 0).trans rfl; have hcz69_1 : w39.cell? ⟨gb267, 1, none⟩ = some (.int .i64 t266) := (blk_cell BK267.out 1).trans rfl; have hfz69_0 := blk_frozen BK267.out 0; have hfz69_1 := blk_frozen BK267.out 1) | (go_at_call 11; (with_reducible refine (impl_IsRainbow.calls k t258 t259 t260 t262 t263 t265 t266 t276 _ A52.out).mono ?_); rintro e w70 ⟨rfl, hb⟩; have n0_ := Aside0.mk (Kd.R_below (by (with_reducible repeat (first | apply Kd.R_alloc | apply Kd.R_drewN | apply Kd.R_drew)); exact HO270.out) hb); have n1_ := Aside0.mk (blk_below (g := gb261) (o := .cells #[.int .i64 t259, .int .i64 t260] 25 (0, 0)) (by (with_reducible repeat (first | refine blk_drewN ?_ _ | refine blk_drew ?_ | refine blk_alloc ?_ _)); exact BK261.out) hb); have n2_ := Aside0.mk (blk_below (g := gb264) (o := .cells #[.int .i64 t262, .int .i64 t263] 25 (0, 0)) (by (with_reducible repeat (first | refine blk_drewN ?_ _ | refine blk_drew ?_ | refine blk_alloc ?_ _)); exact BK264.out) hb); have n3_ := Aside0.mk (blk_below (g := gb267) (o := .cells #[.int .i64 t265, .int .i64 t266] 25 (0, 0)) (by (with_reducible repeat (first | refine blk_drewN ?_ _ | refine blk_drew ?_ | refine blk_alloc ?_ _)); exact BK267.out) hb); have n4_ := Aside0.mk (below_step (by repeat (first | (with_reducible first | exact HB.out | apply below_alloc | apply pw_below_drewN | apply below_drew1 | refine below_set ?_ GE261.out | refine below_set ?_ GE264.out | refine below_set ?_ GE267.out) | exact HB.out)) hb); clear HO270; clear BK261; clear BK264; clear BK267; clear HB; have HO270 := n0_; have BK261 := n1_; have BK264 := n2_; have BK267 := n3_; have HB := n4_; clear n0_ n1_ n2_ n3_ n4_; (try clear hb); (try clear hb2); (try clear hk); (try clear hi)))
           go_meet
           case rel => exact ⟨_, ((t276 != false)), (by first | rfl | (simp; done) | (simp [*]; done)), H', ⟨by first | omega | exact Nat.le_refl _⟩, ⟨by (with_reducible repeat (first | refine blk_drewN ?_ _ | refine blk_drew ?_ | refine blk_alloc ?_ _)); exact BK261.out⟩, ⟨by (with_reducible repeat (first | refine blk_drewN ?_ _ | refine blk_drew ?_ | refine blk_alloc ?_ _)); exact BK264.out⟩, ⟨by (with_reducible repeat (first | refine blk_drewN ?_ _ | refine blk_drew ?_ | refine blk_alloc ?_ _)); exact BK267.out⟩, ⟨by repeat (first | (with_reducible first | exact HB.out | apply below_alloc | apply pw_below_drewN | apply below_drew1 | refine below_set ?_ GE261.out | refine below_set ?_ GE264.out | refine below_set ?_ GE267.out) | exact HB.out)⟩⟩
          ·rw [if_neg c62] at H
           have c62b0 : (t272 == t273) = false := beq_eq_false_iff_ne.mpr c62; have c62b1 : (t272 != t273) = true := bne_iff_ne.mpr c62; have H' := Aside0.mk H; clear H; obtain ⟨Ao71, co71, eo71⟩ := Kd.R_slice HO270.out; subst eo71
           go_wp2_with (first | (go_at_call 10; (with_reducible refine (laws_has.calls k _ _ t268 t271 true _ ?side1 ?side2 A44.out).mono ?_); (case side1 => repeat (first | exact (Kd.R_reads' HO270.out).2.2 | (with_reducible refine Kd.C_alloc ?_ _) | (with_reducible refine Kd.C_drewN ?_ _) | (with_reducible refine Kd.C_drew ?_))); (case side2 => exact (Kd.R_reads' HO270.out).2.1); rintro e w' ⟨rfl, ⟨nd, rfl⟩⟩) | (go_at_call 10; (with_reducible refine (laws_has.calls k _ _ t268 t272 true _ ?side1 ?side2 A46.out).mono ?_); (case side1 => repeat (first | exact (Kd.R_reads' HO270.out).2.2 | (with_reducible refine Kd.C_alloc ?_ _) | (with_reducible refine Kd.C_drewN ?_ _) | (with_reducible refine Kd.C_drew ?_))); (case side2 => exact (Kd.R_reads' HO270.out).2.1); rintro e w' ⟨rfl, ⟨nd, rfl⟩⟩; have hnb72 := NB261_264.out; have hnc72 := NB264_261.out; have hnb73 := NB261_267.out; have hnc73 := NB267_261.out; have hcz74_0 : w39.cell? ⟨gb261, 0, none⟩ = some (.int .i64 t259) := (blk_cell BK261.out 0).trans rfl; have hcz74_1 : w39.cell? ⟨gb261, 1, none⟩ = some (.int .i64 t260) := (blk_cell BK261.out 1).trans rfl; have hfz74_0 := blk_frozen BK261.out 0; have hfz74_1 := blk_frozen BK261.out 1; have hnb75 := NB264_267.out; have hnc75 := NB267_264.out; have hcz76_0 : w39.cell? ⟨gb264, 0, none⟩ = some (.int .i64 t262) := (blk_cell BK264.out 0).trans rfl; have hcz76_1 : w39.cell? ⟨gb264, 1, none⟩ = some (.int .i64 t263) := (blk_cell BK264.out 1).trans rfl; have hfz76_0 := blk_frozen BK264.out 0; have hfz76_1 := blk_frozen BK264.out 1; have hcz77_0 : w39.cell? ⟨gb267, 0, none⟩ = some (.int .i64 t265) := (blk_cell BK267.out 0).trans rfl; have hcz77_1 : w39.cell? ⟨gb267, 1, none⟩ = some (.int .i64 t266) := (blk_cell BK267.out 1).trans rfl; have hfz77_0 := blk_frozen BK267.out 0; have hfz77_1 := blk_frozen BK267.out 1) | (go_at_call 11; (with_reducible refine (impl_IsRainbow.calls k t258 t259 t260 t262 t263 t265 t266 t276 _ A52.out).mono ?_); rintro e w78 ⟨rfl, hb⟩; have n0_ := Aside0.mk (Kd.R_below (by (with_reducible repeat (first | apply Kd.R_alloc | apply Kd.R_drewN | apply Kd.R_drew)); exact HO270.out) hb); have n1_ := Aside0.mk (blk_below (g := gb261) (o := .cells #[.int .i64 t259, .int .i64 t260] 25 (0, 0)) (by (with_reducible repeat (first | refine blk_drewN ?_ _ | refine blk_drew ?_ | refine blk_alloc ?_ _)); exact BK261.out) hb); have n2_ := Aside0.mk (blk_below (g := gb264) (o := .cells #[.int .i64 t262, .int .i64 t263] 25 (0, 0)) (by (with_reducible repeat (first | refine blk_drewN ?_ _ | refine blk_drew ?_ | refine blk_alloc ?_ _)); exact BK264.out) hb); have n3_ := Aside0.mk (blk_below (g := gb267) (o := .cells #[.int .i64 t265, .int .i64 t266] 25 (0, 0)) (by (with_reducible repeat (first | refine blk_drewN ?_ _ | refine blk_drew ?_ | refine blk_alloc ?_ _)); exact BK267.out) hb); have n4_ := Aside0.mk (below_step (by repeat (first | (with_reducible first | exact HB.out | apply below_alloc | apply pw_below_drewN | apply below_drew1 | refine below_set ?_ GE261.out | refine below_set ?_ GE264.out | refine below_set ?_ GE267.out) | exact HB.out)) hb); clear HO270; clear BK261; clear BK264; clear BK267; clear HB; have HO270 := n0_; have BK261 := n1_; have BK264 := n2_; have BK267 := n3_; have HB := n4_; clear n0_ n1_ n2_ n3_ n4_; (try clear hb); (try clear hb2); (try clear hk); (try clear hi)))
           go_meet
           case rel => exact ⟨_, ((t276 != (t271 != t273))), (by first | rfl | (simp; done) | (simp [*]; done)), H', ⟨by first | omega | exact Nat.le_refl _⟩, ⟨by (with_reducible repeat (first | refine blk_drewN ?_ _ | refine blk_drew ?_ | refine blk_alloc ?_ _)); exact BK261.out⟩, ⟨by (with_reducible repeat (first | refine blk_drewN ?_ _ | refine blk_drew ?_ | refine blk_alloc ?_ _)); exact BK264.out⟩, ⟨by (with_reducible repeat (first | refine blk_drewN ?_ _ | refine blk_drew ?_ | refine blk_alloc ?_ _)); exact BK267.out⟩, ⟨by repeat (first | (with_reducible first | exact HB.out | apply below_alloc | apply pw_below_drewN | apply below_drew1 | refine below_set ?_ GE261.out | refine below_set ?_ GE264.out | refine below_set ?_ GE267.out) | exact HB.out)⟩⟩
      ·replace c47 := Bool.eq_false_iff.mpr c47
       subst c47
       have H1 : (laws_FnColors.j0 k l0 t258 true t259 t260 t262 t263 t265 t266) = some r := by rw [if_neg (show ¬ (false = true) by decide)] at H; exact H
       clear H; have H := H1; clear H1; have H' := Aside0.mk H; clear H; obtain ⟨Ao79, co79, eo79⟩ := Kd.R_slice HO270.out; subst eo79
       go_wp2_with (first | (go_at_call 10; (with_reducible refine (laws_has.calls k _ _ t268 t271 true _ ?side1 ?side2 A44.out).mono ?_); (case side1 => repeat (first | exact (Kd.R_reads' HO270.out).2.2 | (with_reducible refine Kd.C_alloc ?_ _) | (with_reducible refine Kd.C_drewN ?_ _) | (with_reducible refine Kd.C_drew ?_))); (case side2 => exact (Kd.R_reads' HO270.out).2.1); rintro e w' ⟨rfl, ⟨nd, rfl⟩⟩) | (go_at_call 10; (with_reducible refine (laws_has.calls k _ _ t268 t272 false _ ?side1 ?side2 A46.out).mono ?_); (case side1 => repeat (first | exact (Kd.R_reads' HO270.out).2.2 | (with_reducible refine Kd.C_alloc ?_ _) | (with_reducible refine Kd.C_drewN ?_ _) | (with_reducible refine Kd.C_drew ?_))); (case side2 => exact (Kd.R_reads' HO270.out).2.1); rintro e w' ⟨rfl, ⟨nd, rfl⟩⟩))
       go_meet
       case rel => exact ⟨_, (true), (by first | rfl | (simp; done) | (simp [*]; done)), H', ⟨by first | omega | exact Nat.le_refl _⟩, ⟨by (with_reducible repeat (first | refine blk_drewN ?_ _ | refine blk_drew ?_ | refine blk_alloc ?_ _)); exact BK261.out⟩, ⟨by (with_reducible repeat (first | refine blk_drewN ?_ _ | refine blk_drew ?_ | refine blk_alloc ?_ _)); exact BK264.out⟩, ⟨by (with_reducible repeat (first | refine blk_drewN ?_ _ | refine blk_drew ?_ | refine blk_alloc ?_ _)); exact BK267.out⟩, ⟨by repeat (first | (with_reducible first | exact HB.out | apply below_alloc | apply pw_below_drewN | apply below_drew1 | refine below_set ?_ GE261.out | refine below_set ?_ GE264.out | refine below_set ?_ GE267.out) | exact HB.out)⟩⟩
     ·replace c45 := Bool.eq_false_iff.mpr c45
      subst c45
      have H1 : (laws_FnColors.j0 k l0 t258 true t259 t260 t262 t263 t265 t266) = some r := by rw [if_neg (show ¬ (false = true) by decide)] at H; exact H
      clear H; have H := H1; clear H1; have H' := Aside0.mk H; clear H; obtain ⟨Ao80, co80, eo80⟩ := Kd.R_slice HO270.out; subst eo80
      go_wp2_with (first | (go_at_call 10; (with_reducible refine (laws_has.calls k _ _ t268 t271 false _ ?side1 ?side2 A44.out).mono ?_); (case side1 => repeat (first | exact (Kd.R_reads' HO270.out).2.2 | (with_reducible refine Kd.C_alloc ?_ _) | (with_reducible refine Kd.C_drewN ?_ _) | (with_reducible refine Kd.C_drew ?_))); (case side2 => exact (Kd.R_reads' HO270.out).2.1); rintro e w' ⟨rfl, ⟨nd, rfl⟩⟩))
      go_meet
      case rel => exact ⟨_, (true), (by first | rfl | (simp; done) | (simp [*]; done)), H', ⟨by first | omega | exact Nat.le_refl _⟩, ⟨by (with_reducible repeat (first | refine blk_drewN ?_ _ | refine blk_drew ?_ | refine blk_alloc ?_ _)); exact BK261.out⟩, ⟨by (with_reducible repeat (first | refine blk_drewN ?_ _ | refine blk_drew ?_ | refine blk_alloc ?_ _)); exact BK264.out⟩, ⟨by (with_reducible repeat (first | refine blk_drewN ?_ _ | refine blk_drew ?_ | refine blk_alloc ?_ _)); exact BK267.out⟩, ⟨by repeat (first | (with_reducible first | exact HB.out | apply below_alloc | apply pw_below_drewN | apply below_drew1 | refine below_set ?_ GE261.out | refine below_set ?_ GE264.out | refine below_set ?_ GE267.out) | exact HB.out)⟩⟩
  case rest =>
   clear HC14; try clear c2
   try clear c2b0
   try clear c2b1
   try clear p2
   try clear c3
   try clear c4
   try clear c5
   try clear c6
   try clear c7
   try clear c8
   try clear c9
   try clear c23
   try clear c28
   try clear c29
   try clear c40
   try clear c40b0
   try clear c40b1
   try clear c42
   try clear c42b0
   try clear c42b1
   try clear c45
   try clear c47
   try clear c48
   try clear c48b0
   try clear c50
   try clear c50b0
   try clear c53
   try clear c53b0
   try clear c53b1
   try clear c55
   try clear c56
   try clear c58
   try clear c62
   try clear c62b0
   try clear c62b1
   try clear c64
   try clear c65
   try clear c67
   try clear c72
   try clear c73
   try clear c75
   try clear hcz19_0
   try clear hcz19_1
   try clear hcz24_0
   try clear hcz24_1
   try clear hcz30_0
   try clear hcz30_1
   try clear hcz31_0
   try clear hcz31_1
   try clear hcz32_0
   try clear hcz32_1
   try clear hcz34_0
   try clear hcz34_1
   try clear hcz36_0
   try clear hcz36_1
   try clear hcz38_0
   try clear hcz38_1
   try clear hcz57_0
   try clear hcz57_1
   try clear hcz59_0
   try clear hcz59_1
   try clear hcz60_0
   try clear hcz60_1
   try clear hcz66_0
   try clear hcz66_1
   try clear hcz68_0
   try clear hcz68_1
   try clear hcz69_0
   try clear hcz69_1
   try clear hcz74_0
   try clear hcz74_1
   try clear hcz76_0
   try clear hcz76_1
   try clear hcz77_0
   try clear hcz77_1
   try clear hfz19_0
   try clear hfz19_1
   try clear hfz24_0
   try clear hfz24_1
   try clear hfz30_0
   try clear hfz30_1
   try clear hfz31_0
   try clear hfz31_1
   try clear hfz32_0
   try clear hfz32_1
   try clear hfz34_0
   try clear hfz34_1
   try clear hfz36_0
   try clear hfz36_1
   try clear hfz38_0
   try clear hfz38_1
   try clear hfz57_0
   try clear hfz57_1
   try clear hfz59_0
   try clear hfz59_1
   try clear hfz60_0
   try clear hfz60_1
   try clear hfz66_0
   try clear hfz66_1
   try clear hfz68_0
   try clear hfz68_1
   try clear hfz69_0
   try clear hfz69_1
   try clear hfz74_0
   try clear hfz74_1
   try clear hfz76_0
   try clear hfz76_1
   try clear hfz77_0
   try clear hfz77_1
   obtain ⟨kq, x104_13, rfl, HA, HJ13, BK261, BK264, BK267, HB⟩ := hcut
   as_aux_lemma =>
    cases kq with
    | zero => exact absurd HA.out (by simp [laws_FnColors.j0])
    | succ kj13 =>
     have H := HA.out; clear HA; simp only [laws_FnColors.j0] at H; by_cases c81 : x104_13 = true
     ·subst c81
      have H1 : (some false) = some r := by rw [if_pos rfl] at H; exact H
      exact (laws_FnColors.no_false HT H1).elim
     ·replace c81 := Bool.eq_false_iff.mpr c81
      subst c81
      have H1 : ((impl_IsRainbow.f kj13 t258 t259 t260 t262 t263 t265 t266).bind fun t277 => (if t277 = true then ((impl_CrossOf.f kj13 t259 t260 t262 t263 t265 t266).bind fun t278 => (if t278 = 0 then (laws_FnColors.j1 kj13 l0 t258 true) else ((impl_CrossOf.f kj13 t259 t260 t262 t263 t265 t266).bind fun t279 => ((impl_HalvingsOf.f kj13 t279).bind fun t280 => ((impl_HalvingsOf.f kj13 t258).bind fun t281 => (laws_FnColors.j1 kj13 l0 t258 (decide (t280 > (wrap64 (2 * t281)))))))))) else (laws_FnColors.j1 kj13 l0 t258 false))) = some r := by rw [if_neg (show ¬ (false = true) by decide)] at H; exact H
      clear H; have H := H1; clear H1; have HC82 := Aside0.mk H; clear H; go_upto_region 13 with (fail)
      go_cut [127] (fun v127 wc => ∃ (kq : Nat) (x127_81 : Bool), v127 = .bool x127_81 ∧ Aside0 (laws_FnColors.j1 kq l0 t258 x127_81 = some r) ∧ Aside0 (kq ≤ kj13) ∧ Aside0 (wc.heap[gb261]? = some (.cells #[.int .i64 t259, .int .i64 t260] 25 (0, 0))) ∧ Aside0 (wc.heap[gb264]? = some (.cells #[.int .i64 t262, .int .i64 t263] 25 (0, 0))) ∧ Aside0 (wc.heap[gb267]? = some (.cells #[.int .i64 t265, .int .i64 t266] 25 (0, 0))) ∧ Aside0 (Below w.heap.size w wc))
      case first =>
       have H := HC82.out; clear HC82; replace H := Option.bind_eq_some_iff.mp H; obtain ⟨t277, A830, H⟩ := H; replace H : (if t277 = true then ((impl_CrossOf.f kj13 t259 t260 t262 t263 t265 t266).bind fun t278 => (if t278 = 0 then (laws_FnColors.j1 kj13 l0 t258 true) else ((impl_CrossOf.f kj13 t259 t260 t262 t263 t265 t266).bind fun t279 => ((impl_HalvingsOf.f kj13 t279).bind fun t280 => ((impl_HalvingsOf.f kj13 t258).bind fun t281 => (laws_FnColors.j1 kj13 l0 t258 (decide (t280 > (wrap64 (2 * t281)))))))))) else (laws_FnColors.j1 kj13 l0 t258 false)) = some r := H; have A83 := Aside0.mk A830; clear A830; by_cases c84 : t277 = true
       ·subst c84
        have H1 : ((impl_CrossOf.f kj13 t259 t260 t262 t263 t265 t266).bind fun t278 => (if t278 = 0 then (laws_FnColors.j1 kj13 l0 t258 true) else ((impl_CrossOf.f kj13 t259 t260 t262 t263 t265 t266).bind fun t279 => ((impl_HalvingsOf.f kj13 t279).bind fun t280 => ((impl_HalvingsOf.f kj13 t258).bind fun t281 => (laws_FnColors.j1 kj13 l0 t258 (decide (t280 > (wrap64 (2 * t281)))))))))) = some r := by rw [if_pos rfl] at H; exact H
        clear H; have H := H1; clear H1; replace H := Option.bind_eq_some_iff.mp H; obtain ⟨t278, A850, H⟩ := H; replace H : (if t278 = 0 then (laws_FnColors.j1 kj13 l0 t258 true) else ((impl_CrossOf.f kj13 t259 t260 t262 t263 t265 t266).bind fun t279 => ((impl_HalvingsOf.f kj13 t279).bind fun t280 => ((impl_HalvingsOf.f kj13 t258).bind fun t281 => (laws_FnColors.j1 kj13 l0 t258 (decide (t280 > (wrap64 (2 * t281))))))))) = some r := H; have A85 := Aside0.mk A850; clear A850; by_cases c86 : t278 = 0
        ·rw [if_pos c86] at H
         exact (laws_FnColors.j1_dead HT H).elim
        ·rw [if_neg c86] at H
         have c86b0 : (t278 == 0) = false := beq_eq_false_iff_ne.mpr c86; have c86b1 : (t278 != 0) = true := bne_iff_ne.mpr c86; (first | rw [c86b0] | (simp only [i64_w, i32_w]; rw [c86b0]) | skip)
         replace H := Option.bind_eq_some_iff.mp H; obtain ⟨t279, A980, H⟩ := H; replace H : ((impl_HalvingsOf.f kj13 t279).bind fun t280 => ((impl_HalvingsOf.f kj13 t258).bind fun t281 => (laws_FnColors.j1 kj13 l0 t258 (decide (t280 > (wrap64 (2 * t281))))))) = some r := H; have A98 := Aside0.mk A980; clear A980; obtain rfl : t278 = t279 := Option.some.inj (A85.out.symm.trans A98.out); replace H := Option.bind_eq_some_iff.mp H; obtain ⟨t280, A990, H⟩ := H; replace H : ((impl_HalvingsOf.f kj13 t258).bind fun t281 => (laws_FnColors.j1 kj13 l0 t258 (decide (t280 > (wrap64 (2 * t281)))))) = some r := H; have A99 := Aside0.mk A990; clear A990; replace H := Option.bind_eq_some_iff.mp H; obtain ⟨t281, A1000, H⟩ := H; replace H : (laws_FnColors.j1 kj13 l0 t258 (decide (t280 > (wrap64 (2 * t281))))) = some r := H; have A100 := Aside0.mk A1000; clear A1000; have H' := Aside0.mk H; clear H; have hnb101 := NB261_264.out; have hnc101 := NB264_261.out; have hnb102 := NB261_267.out; have hnc102 := NB267_261.out; have hcz103_0 : wc.cell? ⟨gb261, 0, none⟩ = some (.int .i64 t259) := (blk_cell BK261.out 0).trans rfl; have hcz103_1 : wc.cell? ⟨gb261, 1, none⟩ = some (.int .i64 t260) := (blk_cell BK261.out 1).trans rfl; have hfz103_0 := blk_frozen BK261.out 0; have hfz103_1 := blk_frozen BK261.out 1; have hnb104 := NB264_267.out; have hnc104 := NB267_264.out; have hcz105_0 : wc.cell? ⟨gb264, 0, none⟩ = some (.int .i64 t262) := (blk_cell BK264.out 0).trans rfl; have hcz105_1 : wc.cell? ⟨gb264, 1, none⟩ = some (.int .i64 t263) := (blk_cell BK264.out 1).trans rfl; have hfz105_0 := blk_frozen BK264.out 0; have hfz105_1 := blk_frozen BK264.out 1; have hcz106_0 : wc.cell? ⟨gb267, 0, none⟩ = some (.int .i64 t265) := (blk_cell BK267.out 0).trans rfl; have hcz106_1 : wc.cell? ⟨gb267, 1, none⟩ = some (.int .i64 t266) := (blk_cell BK267.out 1).trans rfl; have hfz106_0 := blk_frozen BK267.out 0; have hfz106_1 := blk_frozen BK267.out 1; go_wp2_with (first | (go_at_call 11; (with_reducible refine (impl_IsRainbow.calls kj13 t258 t259 t260 t262 t263 t265 t266 true _ A83.out).mono ?_); rintro e w107 ⟨rfl, hb⟩; have n0_ := Aside0.mk (blk_below (g := gb261) (o := .cells #[.int .i64 t259, .int .i64 t260] 25 (0, 0)) (by (with_reducible repeat (first | refine blk_drewN ?_ _ | refine blk_drew ?_ | refine blk_alloc ?_ _)); exact BK261.out) hb); have n1_ := Aside0.mk (blk_below (g := gb264) (o := .cells #[.int .i64 t262, .int .i64 t263] 25 (0, 0)) (by (with_reducible repeat (first | refine blk_drewN ?_ _ | refine blk_drew ?_ | refine blk_alloc ?_ _)); exact BK264.out) hb); have n2_ := Aside0.mk (blk_below (g := gb267) (o := .cells #[.int .i64 t265, .int .i64 t266] 25 (0, 0)) (by (with_reducible repeat (first | refine blk_drewN ?_ _ | refine blk_drew ?_ | refine blk_alloc ?_ _)); exact BK267.out) hb); have n3_ := Aside0.mk (below_step (by repeat (first | (with_reducible first | exact HB.out | apply below_alloc | apply pw_below_drewN | apply below_drew1 | refine below_set ?_ GE261.out | refine below_set ?_ GE264.out | refine below_set ?_ GE267.out) | exact HB.out)) hb); clear BK261; clear BK264; clear BK267; clear HB; have BK261 := n0_; have BK264 := n1_; have BK267 := n2_; have HB := n3_; clear n0_ n1_ n2_ n3_; (try clear hb); (try clear hb2); (try clear hk); (try clear hi); have hcz108_0 : w107.cell? ⟨gb261, 0, none⟩ = some (.int .i64 t259) := (blk_cell BK261.out 0).trans rfl; have hcz108_1 : w107.cell? ⟨gb261, 1, none⟩ = some (.int .i64 t260) := (blk_cell BK261.out 1).trans rfl; have hfz108_0 := blk_frozen BK261.out 0; have hfz108_1 := blk_frozen BK261.out 1; have hcz109_0 : w107.cell? ⟨gb264, 0, none⟩ = some (.int .i64 t262) := (blk_cell BK264.out 0).trans rfl; have hcz109_1 : w107.cell? ⟨gb264, 1, none⟩ = some (.int .i64 t263) := (blk_cell BK264.out 1).trans rfl; have hfz109_0 := blk_frozen BK264.out 0; have hfz109_1 := blk_frozen BK264.out 1; have hcz110_0 : w107.cell? ⟨gb267, 0, none⟩ = some (.int .i64 t265) := (blk_cell BK267.out 0).trans rfl; have hcz110_1 : w107.cell? ⟨gb267, 1, none⟩ = some (.int .i64 t266) := (blk_cell BK267.out 1).trans rfl; have hfz110_0 := blk_frozen BK267.out 0; have hfz110_1 := blk_frozen BK267.out 1) | (go_at_call 12; (with_reducible refine (impl_CrossOf.calls kj13 t259 t260 t262 t263 t265 t266 t278 _ A85.out).mono ?_); rintro e w111 ⟨rfl, hb⟩; have n0_ := Aside0.mk (blk_below (g := gb261) (o := .cells #[.int .i64 t259, .int .i64 t260] 25 (0, 0)) (by (with_reducible repeat (first | refine blk_drewN ?_ _ | refine blk_drew ?_ | refine blk_alloc ?_ _)); exact BK261.out) hb); have n1_ := Aside0.mk (blk_below (g := gb264) (o := .cells #[.int .i64 t262, .int .i64 t263] 25 (0, 0)) (by (with_reducible repeat (first | refine blk_drewN ?_ _ | refine blk_drew ?_ | refine blk_alloc ?_ _)); exact BK264.out) hb); have n2_ := Aside0.mk (blk_below (g := gb267) (o := .cells #[.int .i64 t265, .int .i64 t266] 25 (0, 0)) (by (with_reducible repeat (first | refine blk_drewN ?_ _ | refine blk_drew ?_ | refine blk_alloc ?_ _)); exact BK267.out) hb); have n3_ := Aside0.mk (below_step (by repeat (first | (with_reducible first | exact HB.out | apply below_alloc | apply pw_below_drewN | apply below_drew1 | refine below_set ?_ GE261.out | refine below_set ?_ GE264.out | refine below_set ?_ GE267.out) | exact HB.out)) hb); clear BK261; clear BK264; clear BK267; clear HB; have BK261 := n0_; have BK264 := n1_; have BK267 := n2_; have HB := n3_; clear n0_ n1_ n2_ n3_; (try clear hb); (try clear hb2); (try clear hk); (try clear hi); have hcz112_0 : w111.cell? ⟨gb261, 0, none⟩ = some (.int .i64 t259) := (blk_cell BK261.out 0).trans rfl; have hcz112_1 : w111.cell? ⟨gb261, 1, none⟩ = some (.int .i64 t260) := (blk_cell BK261.out 1).trans rfl; have hfz112_0 := blk_frozen BK261.out 0; have hfz112_1 := blk_frozen BK261.out 1; have hcz113_0 : w111.cell? ⟨gb264, 0, none⟩ = some (.int .i64 t262) := (blk_cell BK264.out 0).trans rfl; have hcz113_1 : w111.cell? ⟨gb264, 1, none⟩ = some (.int .i64 t263) := (blk_cell BK264.out 1).trans rfl; have hfz113_0 := blk_frozen BK264.out 0; have hfz113_1 := blk_frozen BK264.out 1; have hcz114_0 : w111.cell? ⟨gb267, 0, none⟩ = some (.int .i64 t265) := (blk_cell BK267.out 0).trans rfl; have hcz114_1 : w111.cell? ⟨gb267, 1, none⟩ = some (.int .i64 t266) := (blk_cell BK267.out 1).trans rfl; have hfz114_0 := blk_frozen BK267.out 0; have hfz114_1 := blk_frozen BK267.out 1) | (go_at_call 12; (with_reducible refine (impl_CrossOf.calls kj13 t259 t260 t262 t263 t265 t266 t278 _ A98.out).mono ?_); rintro e w115 ⟨rfl, hb⟩; have n0_ := Aside0.mk (blk_below (g := gb261) (o := .cells #[.int .i64 t259, .int .i64 t260] 25 (0, 0)) (by (with_reducible repeat (first | refine blk_drewN ?_ _ | refine blk_drew ?_ | refine blk_alloc ?_ _)); exact BK261.out) hb); have n1_ := Aside0.mk (blk_below (g := gb264) (o := .cells #[.int .i64 t262, .int .i64 t263] 25 (0, 0)) (by (with_reducible repeat (first | refine blk_drewN ?_ _ | refine blk_drew ?_ | refine blk_alloc ?_ _)); exact BK264.out) hb); have n2_ := Aside0.mk (blk_below (g := gb267) (o := .cells #[.int .i64 t265, .int .i64 t266] 25 (0, 0)) (by (with_reducible repeat (first | refine blk_drewN ?_ _ | refine blk_drew ?_ | refine blk_alloc ?_ _)); exact BK267.out) hb); have n3_ := Aside0.mk (below_step (by repeat (first | (with_reducible first | exact HB.out | apply below_alloc | apply pw_below_drewN | apply below_drew1 | refine below_set ?_ GE261.out | refine below_set ?_ GE264.out | refine below_set ?_ GE267.out) | exact HB.out)) hb); clear BK261; clear BK264; clear BK267; clear HB; have BK261 := n0_; have BK264 := n1_; have BK267 := n2_; have HB := n3_; clear n0_ n1_ n2_ n3_; (try clear hb); (try clear hb2); (try clear hk); (try clear hi)) | (go_at_call 13; (with_reducible refine (impl_HalvingsOf.calls kj13 t278 t280 _ A99.out).mono ?_); rintro e w' ⟨rfl, ⟨nd, rfl⟩⟩) | (go_at_call 13; (with_reducible refine (impl_HalvingsOf.calls kj13 t258 t281 _ A100.out).mono ?_); rintro e w' ⟨rfl, ⟨nd, rfl⟩⟩))
         go_meet
         case rel => exact ⟨_, (decide (t280 > (wrap64 (2 * t281)))), (by first | rfl | (simp; done) | (simp [*]; done)), H', ⟨by have := HJ13.out; first | omega | exact Nat.le_refl _⟩, ⟨by (with_reducible repeat (first | refine blk_drewN ?_ _ | refine blk_drew ?_ | refine blk_alloc ?_ _)); exact BK261.out⟩, ⟨by (with_reducible repeat (first | refine blk_drewN ?_ _ | refine blk_drew ?_ | refine blk_alloc ?_ _)); exact BK264.out⟩, ⟨by (with_reducible repeat (first | refine blk_drewN ?_ _ | refine blk_drew ?_ | refine blk_alloc ?_ _)); exact BK267.out⟩, ⟨by repeat (first | (with_reducible first | exact HB.out | apply below_alloc | apply pw_below_drewN | apply below_drew1 | refine below_set ?_ GE261.out | refine below_set ?_ GE264.out | refine below_set ?_ GE267.out) | exact HB.out)⟩⟩
       ·replace c84 := Bool.eq_false_iff.mpr c84
        subst c84
        have H1 : (laws_FnColors.j1 kj13 l0 t258 false) = some r := by rw [if_neg (show ¬ (false = true) by decide)] at H; exact H
        clear H; have H := H1; clear H1; have H' := Aside0.mk H; clear H; have hnb116 := NB261_264.out; have hnc116 := NB264_261.out; have hnb117 := NB261_267.out; have hnc117 := NB267_261.out; have hcz118_0 : wc.cell? ⟨gb261, 0, none⟩ = some (.int .i64 t259) := (blk_cell BK261.out 0).trans rfl; have hcz118_1 : wc.cell? ⟨gb261, 1, none⟩ = some (.int .i64 t260) := (blk_cell BK261.out 1).trans rfl; have hfz118_0 := blk_frozen BK261.out 0; have hfz118_1 := blk_frozen BK261.out 1; have hnb119 := NB264_267.out; have hnc119 := NB267_264.out; have hcz120_0 : wc.cell? ⟨gb264, 0, none⟩ = some (.int .i64 t262) := (blk_cell BK264.out 0).trans rfl; have hcz120_1 : wc.cell? ⟨gb264, 1, none⟩ = some (.int .i64 t263) := (blk_cell BK264.out 1).trans rfl; have hfz120_0 := blk_frozen BK264.out 0; have hfz120_1 := blk_frozen BK264.out 1; have hcz121_0 : wc.cell? ⟨gb267, 0, none⟩ = some (.int .i64 t265) := (blk_cell BK267.out 0).trans rfl; have hcz121_1 : wc.cell? ⟨gb267, 1, none⟩ = some (.int .i64 t266) := (blk_cell BK267.out 1).trans rfl; have hfz121_0 := blk_frozen BK267.out 0; have hfz121_1 := blk_frozen BK267.out 1; go_wp2_with (first | ((with_reducible refine gate_callee (f := 11) rfl ?_); refine goesL_ (some 109) rfl rfl Try.func11 (by kernel_rfl) rfl #[.int .i64 t258, .agg #[.int .i64 t259, .int .i64 t260], .agg #[.int .i64 t262, .int .i64 t263], .agg #[.int .i64 t265, .int .i64 t266]] rfl (by (try simp only [List.map_toArray, List.map_cons, List.map_nil]); first | done | rfl | (simp only [List.length_drop, List.length_take]; rfl)) ?_; (with_reducible refine (impl_IsRainbow.calls kj13 t258 t259 t260 t262 t263 t265 t266 false _ A83.out).mono ?_); rintro e w122 ⟨rfl, hb⟩; refine ⟨_, rfl, ?_⟩; have n0_ := Aside0.mk (blk_below (g := gb261) (o := .cells #[.int .i64 t259, .int .i64 t260] 25 (0, 0)) (by (with_reducible repeat (first | refine blk_drewN ?_ _ | refine blk_drew ?_ | refine blk_alloc ?_ _)); exact BK261.out) hb); have n1_ := Aside0.mk (blk_below (g := gb264) (o := .cells #[.int .i64 t262, .int .i64 t263] 25 (0, 0)) (by (with_reducible repeat (first | refine blk_drewN ?_ _ | refine blk_drew ?_ | refine blk_alloc ?_ _)); exact BK264.out) hb); have n2_ := Aside0.mk (blk_below (g := gb267) (o := .cells #[.int .i64 t265, .int .i64 t266] 25 (0, 0)) (by (with_reducible repeat (first | refine blk_drewN ?_ _ | refine blk_drew ?_ | refine blk_alloc ?_ _)); exact BK267.out) hb); have n3_ := Aside0.mk (below_step (by repeat (first | (with_reducible first | exact HB.out | apply below_alloc | apply pw_below_drewN | apply below_drew1 | refine below_set ?_ GE261.out | refine below_set ?_ GE264.out | refine below_set ?_ GE267.out) | exact HB.out)) hb); clear BK261; clear BK264; clear BK267; clear HB; have BK261 := n0_; have BK264 := n1_; have BK267 := n2_; have HB := n3_; clear n0_ n1_ n2_ n3_; (try clear hb); (try clear hb2); (try clear hk); (try clear hi)))
        go_meet
        case rel => exact ⟨_, (false), (by first | rfl | (simp; done) | (simp [*]; done)), H', ⟨by have := HJ13.out; first | omega | exact Nat.le_refl _⟩, ⟨by (with_reducible repeat (first | refine blk_drewN ?_ _ | refine blk_drew ?_ | refine blk_alloc ?_ _)); exact BK261.out⟩, ⟨by (with_reducible repeat (first | refine blk_drewN ?_ _ | refine blk_drew ?_ | refine blk_alloc ?_ _)); exact BK264.out⟩, ⟨by (with_reducible repeat (first | refine blk_drewN ?_ _ | refine blk_drew ?_ | refine blk_alloc ?_ _)); exact BK267.out⟩, ⟨by repeat (first | (with_reducible first | exact HB.out | apply below_alloc | apply pw_below_drewN | apply below_drew1 | refine below_set ?_ GE261.out | refine below_set ?_ GE264.out | refine below_set ?_ GE267.out) | exact HB.out)⟩⟩
      case rest =>
       clear HC82; try clear c1
       try clear c2
       try clear c2b0
       try clear c2b1
       try clear p2
       try clear c3
       try clear c4
       try clear c5
       try clear c6
       try clear p6
       try clear c7
       try clear c8
       try clear c9
       try clear c10
       try clear c11
       try clear c23
       try clear c28
       try clear c29
       try clear c40
       try clear c40b0
       try clear c40b1
       try clear c42
       try clear c42b0
       try clear c42b1
       try clear c45
       try clear c47
       try clear c48
       try clear c48b0
       try clear c50
       try clear c50b0
       try clear c53
       try clear c53b0
       try clear c53b1
       try clear c55
       try clear c56
       try clear c58
       try clear c62
       try clear c62b0
       try clear c62b1
       try clear c64
       try clear p64
       try clear c65
       try clear c67
       try clear c72
       try clear c73
       try clear c75
       try clear c81
       try clear c84
       try clear c86
       try clear c86b0
       try clear c86b1
       try clear c87
       try clear c88
       try clear c90
       try clear c101
       try clear c102
       try clear c104
       try clear c116
       try clear c117
       try clear c119
       try clear hcz103_0
       try clear hcz103_1
       try clear hcz105_0
       try clear hcz105_1
       try clear hcz106_0
       try clear hcz106_1
       try clear hcz108_0
       try clear hcz108_1
       try clear hcz109_0
       try clear hcz109_1
       try clear hcz110_0
       try clear hcz110_1
       try clear hcz112_0
       try clear hcz112_1
       try clear hcz113_0
       try clear hcz113_1
       try clear hcz114_0
       try clear hcz114_1
       try clear hcz118_0
       try clear hcz118_1
       try clear hcz120_0
       try clear hcz120_1
       try clear hcz121_0
       try clear hcz121_1
       try clear hcz19_0
       try clear hcz19_1
       try clear hcz24_0
       try clear hcz24_1
       try clear hcz30_0
       try clear hcz30_1
       try clear hcz31_0
       try clear hcz31_1
       try clear hcz32_0
       try clear hcz32_1
       try clear hcz34_0
       try clear hcz34_1
       try clear hcz36_0
       try clear hcz36_1
       try clear hcz38_0
       try clear hcz38_1
       try clear hcz57_0
       try clear hcz57_1
       try clear hcz59_0
       try clear hcz59_1
       try clear hcz60_0
       try clear hcz60_1
       try clear hcz66_0
       try clear hcz66_1
       try clear hcz68_0
       try clear hcz68_1
       try clear hcz69_0
       try clear hcz69_1
       try clear hcz74_0
       try clear hcz74_1
       try clear hcz76_0
       try clear hcz76_1
       try clear hcz77_0
       try clear hcz77_1
       try clear hcz89_0
       try clear hcz89_1
       try clear hcz91_0
       try clear hcz91_1
       try clear hcz92_0
       try clear hcz92_1
       try clear hcz94_0
       try clear hcz94_1
       try clear hcz95_0
       try clear hcz95_1
       try clear hcz96_0
       try clear hcz96_1
       try clear hfz103_0
       try clear hfz103_1
       try clear hfz105_0
       try clear hfz105_1
       try clear hfz106_0
       try clear hfz106_1
       try clear hfz108_0
       try clear hfz108_1
       try clear hfz109_0
       try clear hfz109_1
       try clear hfz110_0
       try clear hfz110_1
       try clear hfz112_0
       try clear hfz112_1
       try clear hfz113_0
       try clear hfz113_1
       try clear hfz114_0
       try clear hfz114_1
       try clear hfz118_0
       try clear hfz118_1
       try clear hfz120_0
       try clear hfz120_1
       try clear hfz121_0
       try clear hfz121_1
       try clear hfz19_0
       try clear hfz19_1
       try clear hfz24_0
       try clear hfz24_1
       try clear hfz30_0
       try clear hfz30_1
       try clear hfz31_0
       try clear hfz31_1
       try clear hfz32_0
       try clear hfz32_1
       try clear hfz34_0
       try clear hfz34_1
       try clear hfz36_0
       try clear hfz36_1
       try clear hfz38_0
       try clear hfz38_1
       try clear hfz57_0
       try clear hfz57_1
       try clear hfz59_0
       try clear hfz59_1
       try clear hfz60_0
       try clear hfz60_1
       try clear hfz66_0
       try clear hfz66_1
       try clear hfz68_0
       try clear hfz68_1
       try clear hfz69_0
       try clear hfz69_1
       try clear hfz74_0
       try clear hfz74_1
       try clear hfz76_0
       try clear hfz76_1
       try clear hfz77_0
       try clear hfz77_1
       try clear hfz89_0
       try clear hfz89_1
       try clear hfz91_0
       try clear hfz91_1
       try clear hfz92_0
       try clear hfz92_1
       try clear hfz94_0
       try clear hfz94_1
       try clear hfz95_0
       try clear hfz95_1
       try clear hfz96_0
       try clear hfz96_1
       try clear p2
       obtain ⟨kq, x127_81, rfl, HA, HJ81, BK261, BK264, BK267, HB⟩ := hcut
       as_aux_lemma =>
        cases kq with
        | zero => exact absurd HA.out (by simp [laws_FnColors.j1])
        | succ kj81 =>
         have H := HA.out; clear HA; simp only [laws_FnColors.j1] at H; by_cases c123 : x127_81 = true
         ·subst c123
          have H1 : (some false) = some r := by rw [if_pos rfl] at H; exact H
          exact (laws_FnColors.no_false HT H1).elim
         ·replace c123 := Bool.eq_false_iff.mpr c123
          subst c123
          have H1 : ((spec_MakeSquare.f kj81 l0 20 t258).bind fun t282 => ((impl_Triangulate.f kj81 t282).bind fun bt285 => ((impl_RainbowSides.f kj81 t258 t282).bind fun t289 => (if bt285.2 = true then (if t289 < 1 then (laws_FnColors.j2 kj81 t258 t282 bt285.1 true) else (laws_FnColors.j2 kj81 t258 t282 bt285.1 ((Int.tmod t289 2) != 1))) else (laws_FnColors.j2 kj81 t258 t282 bt285.1 true))))) = some r := by rw [if_neg (show ¬ (false = true) by decide)] at H; exact H
          clear H; have H := H1; clear H1; replace H := Option.bind_eq_some_iff.mp H; obtain ⟨t282, A1240, H⟩ := H; replace H : ((impl_Triangulate.f kj81 t282).bind fun bt285 => ((impl_RainbowSides.f kj81 t258 t282).bind fun t289 => (if bt285.2 = true then (if t289 < 1 then (laws_FnColors.j2 kj81 t258 t282 bt285.1 true) else (laws_FnColors.j2 kj81 t258 t282 bt285.1 ((Int.tmod t289 2) != 1))) else (laws_FnColors.j2 kj81 t258 t282 bt285.1 true)))) = some r := H; have A124 := Aside0.mk A1240; clear A1240; replace H := Option.bind_eq_some_iff.mp H; obtain ⟨⟨t285, t286⟩, A1250, H⟩ := H; replace H : ((impl_RainbowSides.f kj81 t258 t282).bind fun t289 => (if t286 = true then (if t289 < 1 then (laws_FnColors.j2 kj81 t258 t282 t285 true) else (laws_FnColors.j2 kj81 t258 t282 t285 ((Int.tmod t289 2) != 1))) else (laws_FnColors.j2 kj81 t258 t282 t285 true))) = some r := H; have A125 := Aside0.mk A1250; clear A1250; replace H := Option.bind_eq_some_iff.mp H; obtain ⟨t289, A1260, H⟩ := H; replace H : (if t286 = true then (if t289 < 1 then (laws_FnColors.j2 kj81 t258 t282 t285 true) else (laws_FnColors.j2 kj81 t258 t282 t285 ((Int.tmod t289 2) != 1))) else (laws_FnColors.j2 kj81 t258 t282 t285 true)) = some r := H; have A126 := Aside0.mk A1260; clear A1260; have HC127 := Aside0.mk H; clear H; go_upto_region 18 with (first | ((with_reducible refine gate_callee (f := 14) rfl ?_); refine goesL_ (some 130) rfl rfl Try.func14 (by kernel_rfl) rfl #[.slice A0 l0.length c0, .int .i64 20, .int .i64 t258] rfl (by (try simp only [List.map_toArray, List.map_cons, List.map_nil]); first | done | rfl | (simp only [List.length_drop, List.length_take]; rfl)) ?_; (with_reducible refine (spec_MakeSquare.calls kj81 _ _ l0 20 t258 t282 _ ?side1 ?side2 A124.out).mono ?_); (case side1 => repeat (first | exact (Kd.C_below HR0.out HB.out) | (with_reducible refine Kd.C_alloc ?_ _) | (with_reducible refine Kd.C_drewN ?_ _) | (with_reducible refine Kd.C_drew ?_))); (case side2 => exact HC0.out); rintro e w128 ⟨v283, rfl, ho0, hb⟩; refine ⟨_, rfl, ?_⟩; have n0_ := Aside0.mk (Kd.R_lower (Kd.R_newB (Kd.R_newB (Kd.R_newB ho0 (g := gb261) (o := .cells #[.int .i64 t259, .int .i64 t260] 25 (0, 0)) (by (with_reducible repeat (first | refine blk_drewN ?_ _ | refine blk_drew ?_ | refine blk_alloc ?_ _)); exact BK261.out)) (g := gb264) (o := .cells #[.int .i64 t262, .int .i64 t263] 25 (0, 0)) (by (with_reducible repeat (first | refine blk_drewN ?_ _ | refine blk_drew ?_ | refine blk_alloc ?_ _)); exact BK264.out)) (g := gb267) (o := .cells #[.int .i64 t265, .int .i64 t266] 25 (0, 0)) (by (with_reducible repeat (first | refine blk_drewN ?_ _ | refine blk_drew ?_ | refine blk_alloc ?_ _)); exact BK267.out)) (below_size (by repeat (first | (with_reducible first | exact HB.out | apply below_alloc | apply pw_below_drewN | apply below_drew1 | refine below_set ?_ GE261.out | refine below_set ?_ GE264.out | refine below_set ?_ GE267.out) | exact HB.out)))); have n1_ := Aside0.mk (blk_below (g := gb261) (o := .cells #[.int .i64 t259, .int .i64 t260] 25 (0, 0)) (by (with_reducible repeat (first | refine blk_drewN ?_ _ | refine blk_drew ?_ | refine blk_alloc ?_ _)); exact BK261.out) hb); have n2_ := Aside0.mk (blk_below (g := gb264) (o := .cells #[.int .i64 t262, .int .i64 t263] 25 (0, 0)) (by (with_reducible repeat (first | refine blk_drewN ?_ _ | refine blk_drew ?_ | refine blk_alloc ?_ _)); exact BK264.out) hb); have n3_ := Aside0.mk (blk_below (g := gb267) (o := .cells #[.int .i64 t265, .int .i64 t266] 25 (0, 0)) (by (with_reducible repeat (first | refine blk_drewN ?_ _ | refine blk_drew ?_ | refine blk_alloc ?_ _)); exact BK267.out) hb); have n4_ := Aside0.mk (below_step (by repeat (first | (with_reducible first | exact HB.out | apply below_alloc | apply pw_below_drewN | apply below_drew1 | refine below_set ?_ GE261.out | refine below_set ?_ GE264.out | refine below_set ?_ GE267.out) | exact HB.out)) hb); clear BK261; clear BK264; clear BK267; clear HB; have HO284 := n0_; have BK261 := n1_; have BK264 := n2_; have BK267 := n3_; have HB := n4_; clear n0_ n1_ n2_ n3_ n4_; (try clear hb); (try clear hb2); (try clear hk); (try clear hi); (try clear ho0); obtain ⟨Ao129, co129, eo129⟩ := Kd.R_slice HO284.out; subst eo129) | ((with_reducible refine gate_callee (f := 15) rfl ?_); refine goesL_ (some 133) rfl rfl Try.func15 (by kernel_rfl) rfl #[.slice Ao129 t282.length co129] rfl (by (try simp only [List.map_toArray, List.map_cons, List.map_nil]); first | done | rfl | (simp only [List.length_drop, List.length_take]; rfl)) ?_; (with_reducible refine (impl_Triangulate.calls kj81 _ _ t282 t285 t286 _ ?side1 ?side2 A125.out).mono ?_); (case side1 => repeat (first | exact (Kd.R_reads' HO284.out).2.2 | (with_reducible refine Kd.C_alloc ?_ _) | (with_reducible refine Kd.C_drewN ?_ _) | (with_reducible refine Kd.C_drew ?_))); (case side2 => exact (Kd.R_reads' HO284.out).2.1); rintro e w130 ⟨v287, rfl, ho0, hb⟩; refine ⟨_, rfl, ?_⟩; have n0_ := Aside0.mk (Kd.R_below (by (with_reducible repeat (first | apply Kd.R_alloc | apply Kd.R_drewN | apply Kd.R_drew)); exact HO284.out) hb); have n1_ := Aside0.mk (Kd.N_lower (Kd.N_mono (ok' := fun k_ => some k_ ≠ (.slice Ao129 t282.length co129 : Value).ownBlock ∧ k_ ≠ gb261 ∧ k_ ≠ gb264 ∧ k_ ≠ gb267) (Kd.S_N (Kd.S_bound ho0)) (fun k_ hk_ => ⟨(Kd.fresh' (Kd.R_lt (by (with_reducible repeat (first | apply Kd.R_alloc | apply Kd.R_drewN | apply Kd.R_drew)); exact HO284.out)) k_ hk_.2.1), (Kd.freshB (g := gb261) (o := .cells #[.int .i64 t259, .int .i64 t260] 25 (0, 0)) (by (with_reducible repeat (first | refine blk_drewN ?_ _ | refine blk_drew ?_ | refine blk_alloc ?_ _)); exact BK261.out) k_ hk_.2.1), (Kd.freshB (g := gb264) (o := .cells #[.int .i64 t262, .int .i64 t263] 25 (0, 0)) (by (with_reducible repeat (first | refine blk_drewN ?_ _ | refine blk_drew ?_ | refine blk_alloc ?_ _)); exact BK264.out) k_ hk_.2.1), (Kd.freshB (g := gb267) (o := .cells #[.int .i64 t265, .int .i64 t266] 25 (0, 0)) (by (with_reducible repeat (first | refine blk_drewN ?_ _ | refine blk_drew ?_ | refine blk_alloc ?_ _)); exact BK267.out) k_ hk_.2.1)⟩)) (below_size (by repeat (first | (with_reducible first | exact HB.out | apply below_alloc | apply pw_below_drewN | apply below_drew1 | refine below_set ?_ GE261.out | refine below_set ?_ GE264.out | refine below_set ?_ GE267.out) | exact HB.out)))); have n2_ := Aside0.mk (blk_below (g := gb261) (o := .cells #[.int .i64 t259, .int .i64 t260] 25 (0, 0)) (by (with_reducible repeat (first | refine blk_drewN ?_ _ | refine blk_drew ?_ | refine blk_alloc ?_ _)); exact BK261.out) hb); have n3_ := Aside0.mk (blk_below (g := gb264) (o := .cells #[.int .i64 t262, .int .i64 t263] 25 (0, 0)) (by (with_reducible repeat (first | refine blk_drewN ?_ _ | refine blk_drew ?_ | refine blk_alloc ?_ _)); exact BK264.out) hb); have n4_ := Aside0.mk (blk_below (g := gb267) (o := .cells #[.int .i64 t265, .int .i64 t266] 25 (0, 0)) (by (with_reducible repeat (first | refine blk_drewN ?_ _ | refine blk_drew ?_ | refine blk_alloc ?_ _)); exact BK267.out) hb); have n5_ := Aside0.mk (below_step (by repeat (first | (with_reducible first | exact HB.out | apply below_alloc | apply pw_below_drewN | apply below_drew1 | refine below_set ?_ GE261.out | refine below_set ?_ GE264.out | refine below_set ?_ GE267.out) | exact HB.out)) hb); clear HO284; clear BK261; clear BK264; clear BK267; clear HB; have HO284 := n0_; have HO288 := n1_; have BK261 := n2_; have BK264 := n3_; have BK267 := n4_; have HB := n5_; clear n0_ n1_ n2_ n3_ n4_ n5_; (try clear hb); (try clear hb2); (try clear hk); (try clear hi); (try clear ho0)) | ((with_reducible refine gate_callee (f := 16) rfl ?_); refine goesL_ (some 138) rfl rfl Try.func16 (by kernel_rfl) rfl #[.int .i64 t258, .slice Ao129 t282.length co129] rfl (by (try simp only [List.map_toArray, List.map_cons, List.map_nil]); first | done | rfl | (simp only [List.length_drop, List.length_take]; rfl)) ?_; (with_reducible refine (impl_RainbowSides.calls kj81 t258 _ _ t282 t289 _ ?side1 ?side2 A126.out).mono ?_); (case side1 => repeat (first | exact (Kd.R_reads' HO284.out).2.2 | (with_reducible refine Kd.C_alloc ?_ _) | (with_reducible refine Kd.C_drewN ?_ _) | (with_reducible refine Kd.C_drew ?_))); (case side2 => exact (Kd.R_reads' HO284.out).2.1); rintro e w131 ⟨rfl, hb⟩; refine ⟨_, rfl, ?_⟩; have n0_ := Aside0.mk (Kd.R_below (by (with_reducible repeat (first | apply Kd.R_alloc | apply Kd.R_drewN | apply Kd.R_drew)); exact HO284.out) hb); have n1_ := Aside0.mk (Kd.N_below (by (with_reducible repeat (first | apply Kd.N_alloc | apply Kd.N_drewN | apply Kd.N_drew)); exact HO288.out) hb); have n2_ := Aside0.mk (blk_below (g := gb261) (o := .cells #[.int .i64 t259, .int .i64 t260] 25 (0, 0)) (by (with_reducible repeat (first | refine blk_drewN ?_ _ | refine blk_drew ?_ | refine blk_alloc ?_ _)); exact BK261.out) hb); have n3_ := Aside0.mk (blk_below (g := gb264) (o := .cells #[.int .i64 t262, .int .i64 t263] 25 (0, 0)) (by (with_reducible repeat (first | refine blk_drewN ?_ _ | refine blk_drew ?_ | refine blk_alloc ?_ _)); exact BK264.out) hb); have n4_ := Aside0.mk (blk_below (g := gb267) (o := .cells #[.int .i64 t265, .int .i64 t266] 25 (0, 0)) (by (with_reducible repeat (first | refine blk_drewN ?_ _ | refine blk_drew ?_ | refine blk_alloc ?_ _)); exact BK267.out) hb); have n5_ := Aside0.mk (below_step (by repeat (first | (with_reducible first | exact HB.out | apply below_alloc | apply pw_below_drewN | apply below_drew1 | refine below_set ?_ GE261.out | refine below_set ?_ GE264.out | refine below_set ?_ GE267.out) | exact HB.out)) hb); clear HO284; clear HO288; clear BK261; clear BK264; clear BK267; clear HB; have HO284 := n0_; have HO288 := n1_; have BK261 := n2_; have BK264 := n3_; have BK267 := n4_; have HB := n5_; clear n0_ n1_ n2_ n3_ n4_ n5_; (try clear hb); (try clear hb2); (try clear hk); (try clear hi)))
          (try simp only [Act.put, List.setIfInBounds_toArray, List.set_cons_zero, List.set_cons_succ]); go_cut [149] (fun v149 wc => ∃ (kq : Nat) (x149_126 : Bool), v149 = .bool x149_126 ∧ Aside0 (laws_FnColors.j2 kq t258 t282 t285 x149_126 = some r) ∧ Aside0 (kq ≤ kj81) ∧ Aside0 (Kd.R k25 25 wc w.heap.size (fun k_ => k_ ≠ gb261 ∧ k_ ≠ gb264 ∧ k_ ≠ gb267) (.slice Ao129 t282.length co129) t282) ∧ Aside0 (Kd.N (Kd.slice 3 (Kd.int .i64)) 26 wc w.heap.size (fun k_ => some k_ ≠ ((.slice Ao129 t282.length co129) : Value).ownBlock ∧ k_ ≠ gb261 ∧ k_ ≠ gb264 ∧ k_ ≠ gb267) v287 t285) ∧ Aside0 (wc.heap[gb261]? = some (.cells #[.int .i64 t259, .int .i64 t260] 25 (0, 0))) ∧ Aside0 (wc.heap[gb264]? = some (.cells #[.int .i64 t262, .int .i64 t263] 25 (0, 0))) ∧ Aside0 (wc.heap[gb267]? = some (.cells #[.int .i64 t265, .int .i64 t266] 25 (0, 0))) ∧ Aside0 (Below w.heap.size w wc))
          case first =>
           have H := HC127.out; clear HC127; by_cases c132 : t286 = true
           ·subst c132
            have H1 : (if t289 < 1 then (laws_FnColors.j2 kj81 t258 t282 t285 true) else (laws_FnColors.j2 kj81 t258 t282 t285 ((Int.tmod t289 2) != 1))) = some r := by rw [if_pos rfl] at H; exact H
            clear H; have H := H1; clear H1; by_cases c133 : t289 < 1
            ·rw [if_pos c133] at H
             exact (laws_FnColors.j2_dead HT H).elim
            ·rw [if_neg c133] at H
             have c133b0 : decide (t289 < 1) = false := decide_eq_false c133; clear c133; (first | rw [c133b0] | (simp only [i64_w, i32_w]; rw [c133b0]) | skip)
             have H' := Aside0.mk H; clear H; go_wp2
             go_meet
             case rel => exact ⟨_, (((Int.tmod t289 2) != 1)), (by first | rfl | (simp; done) | (simp [*]; done)), H', ⟨by have := HJ13.out; have := HJ81.out; first | omega | exact Nat.le_refl _⟩, ⟨by (with_reducible repeat (first | apply Kd.R_alloc | apply Kd.R_drewN | apply Kd.R_drew)); exact Kd.R_mono HO284.out (fun _ hk => ⟨hk.1.1.2, ⟨hk.1.2, hk.2⟩⟩)⟩, ⟨by (with_reducible repeat (first | apply Kd.N_alloc | apply Kd.N_drewN | apply Kd.N_drew)); exact HO288.out⟩, ⟨by (with_reducible repeat (first | refine blk_drewN ?_ _ | refine blk_drew ?_ | refine blk_alloc ?_ _)); exact BK261.out⟩, ⟨by (with_reducible repeat (first | refine blk_drewN ?_ _ | refine blk_drew ?_ | refine blk_alloc ?_ _)); exact BK264.out⟩, ⟨by (with_reducible repeat (first | refine blk_drewN ?_ _ | refine blk_drew ?_ | refine blk_alloc ?_ _)); exact BK267.out⟩, ⟨by repeat (first | (with_reducible first | exact HB.out | apply below_alloc | apply pw_below_drewN | apply below_drew1 | refine below_set ?_ GE261.out | refine below_set ?_ GE264.out | refine below_set ?_ GE267.out) | exact HB.out)⟩⟩
           ·replace c132 := Bool.eq_false_iff.mpr c132
            subst c132
            have H1 : (laws_FnColors.j2 kj81 t258 t282 t285 true) = some r := by rw [if_neg (show ¬ (false = true) by decide)] at H; exact H
            exact (laws_FnColors.j2_dead HT H1).elim
          case rest =>
           clear HC127; try clear c1
           try clear c2
           try clear c2b0
           try clear c2b1
           try clear p2
           try clear c3
           try clear c4
           try clear c5
           try clear c6
           try clear p6
           try clear c7
           try clear c8
           try clear c9
           try clear c10
           try clear c11
           try clear c12
           try clear c13
           try clear c14
           try clear c15
           try clear c16
           try clear c23
           try clear c28
           try clear c29
           try clear c40
           try clear c40b0
           try clear c40b1
           try clear c42
           try clear c42b0
           try clear c42b1
           try clear c45
           try clear c47
           try clear c48
           try clear c48b0
           try clear c50
           try clear c50b0
           try clear c53
           try clear c53b0
           try clear c53b1
           try clear c55
           try clear c56
           try clear c58
           try clear c62
           try clear c62b0
           try clear c62b1
           try clear c64
           try clear p64
           try clear c65
           try clear c67
           try clear c72
           try clear c73
           try clear c75
           try clear c81
           try clear c84
           try clear c86
           try clear c86b0
           try clear c86b1
           try clear c87
           try clear c88
           try clear c90
           try clear c101
           try clear c102
           try clear c104
           try clear c116
           try clear c117
           try clear c119
           try clear c123
           try clear c132
           try clear c133
           try clear c133b0
           try clear hcz103_0
           try clear hcz103_1
           try clear hcz105_0
           try clear hcz105_1
           try clear hcz106_0
           try clear hcz106_1
           try clear hcz108_0
           try clear hcz108_1
           try clear hcz109_0
           try clear hcz109_1
           try clear hcz110_0
           try clear hcz110_1
           try clear hcz112_0
           try clear hcz112_1
           try clear hcz113_0
           try clear hcz113_1
           try clear hcz114_0
           try clear hcz114_1
           try clear hcz118_0
           try clear hcz118_1
           try clear hcz120_0
           try clear hcz120_1
           try clear hcz121_0
           try clear hcz121_1
           try clear hcz19_0
           try clear hcz19_1
           try clear hcz24_0
           try clear hcz24_1
           try clear hcz30_0
           try clear hcz30_1
           try clear hcz31_0
           try clear hcz31_1
           try clear hcz32_0
           try clear hcz32_1
           try clear hcz34_0
           try clear hcz34_1
           try clear hcz36_0
           try clear hcz36_1
           try clear hcz38_0
           try clear hcz38_1
           try clear hcz57_0
           try clear hcz57_1
           try clear hcz59_0
           try clear hcz59_1
           try clear hcz60_0
           try clear hcz60_1
           try clear hcz66_0
           try clear hcz66_1
           try clear hcz68_0
           try clear hcz68_1
           try clear hcz69_0
           try clear hcz69_1
           try clear hcz74_0
           try clear hcz74_1
           try clear hcz76_0
           try clear hcz76_1
           try clear hcz77_0
           try clear hcz77_1
           try clear hcz89_0
           try clear hcz89_1
           try clear hcz91_0
           try clear hcz91_1
           try clear hcz92_0
           try clear hcz92_1
           try clear hcz94_0
           try clear hcz94_1
           try clear hcz95_0
           try clear hcz95_1
           try clear hcz96_0
           try clear hcz96_1
           try clear hfz103_0
           try clear hfz103_1
           try clear hfz105_0
           try clear hfz105_1
           try clear hfz106_0
           try clear hfz106_1
           try clear hfz108_0
           try clear hfz108_1
           try clear hfz109_0
           try clear hfz109_1
           try clear hfz110_0
           try clear hfz110_1
           try clear hfz112_0
           try clear hfz112_1
           try clear hfz113_0
           try clear hfz113_1
           try clear hfz114_0
           try clear hfz114_1
           try clear hfz118_0
           try clear hfz118_1
           try clear hfz120_0
           try clear hfz120_1
           try clear hfz121_0
           try clear hfz121_1
           try clear hfz19_0
           try clear hfz19_1
           try clear hfz24_0
           try clear hfz24_1
           try clear hfz30_0
           try clear hfz30_1
           try clear hfz31_0
           try clear hfz31_1
           try clear hfz32_0
           try clear hfz32_1
           try clear hfz34_0
           try clear hfz34_1
           try clear hfz36_0
           try clear hfz36_1
           try clear hfz38_0
           try clear hfz38_1
           try clear hfz57_0
           try clear hfz57_1
           try clear hfz59_0
           try clear hfz59_1
           try clear hfz60_0
           try clear hfz60_1
           try clear hfz66_0
           try clear hfz66_1
           try clear hfz68_0
           try clear hfz68_1
           try clear hfz69_0
           try clear hfz69_1
           try clear hfz74_0
           try clear hfz74_1
           try clear hfz76_0
           try clear hfz76_1
           try clear hfz77_0
           try clear hfz77_1
           try clear hfz89_0
           try clear hfz89_1
           try clear hfz91_0
           try clear hfz91_1
           try clear hfz92_0
           try clear hfz92_1
           try clear hfz94_0
           try clear hfz94_1
           try clear hfz95_0
           try clear hfz95_1
           try clear hfz96_0
           try clear hfz96_1
           try clear p2
           try clear p6
           try clear p64
           obtain ⟨kq, x149_126, rfl, HA, HJ126, HO_11, HO_12, BK261, BK264, BK267, HB⟩ := hcut
           as_aux_lemma =>
            cases kq with
            | zero => exact absurd HA.out (by simp [laws_FnColors.j2])
            | succ kj126 =>
             have H := HA.out; clear HA; simp only [laws_FnColors.j2] at H; by_cases c134 : x149_126 = true
             ·subst c134
              have H1 : (some false) = some r := by rw [if_pos rfl] at H; exact H
              exact (laws_FnColors.no_false HT H1).elim
             ·replace c134 := Bool.eq_false_iff.mpr c134
              subst c134
              have H1 : ((impl_CountRainbows.f kj126 t258 t282 t285).bind fun t290 => (if t290 < 1 then (laws_FnColors.j3 kj126 t258 true) else (if (Int.tmod t290 2) = 1 then ((impl_EqualCut.f kj126 t258 t282 t285).bind fun t291 => (if t291 = true then (laws_FnColors.j3 kj126 t258 (((t285.length : Int) % 2) == 1)) else (laws_FnColors.j3 kj126 t258 false))) else (laws_FnColors.j3 kj126 t258 true)))) = some r := by rw [if_neg (show ¬ (false = true) by decide)] at H; exact H
              clear H; have H := H1; clear H1; replace H := Option.bind_eq_some_iff.mp H; obtain ⟨t290, A1350, H⟩ := H; replace H : (if t290 < 1 then (laws_FnColors.j3 kj126 t258 true) else (if (Int.tmod t290 2) = 1 then ((impl_EqualCut.f kj126 t258 t282 t285).bind fun t291 => (if t291 = true then (laws_FnColors.j3 kj126 t258 (((t285.length : Int) % 2) == 1)) else (laws_FnColors.j3 kj126 t258 false))) else (laws_FnColors.j3 kj126 t258 true))) = some r := H; have A135 := Aside0.mk A1350; clear A1350; have HC136 := Aside0.mk H; clear H; obtain ⟨Ao137, co137, eo137⟩ := Kd.N_slice HO_12.out; subst eo137
              go_upto_region 21 with (first | ((with_reducible refine gate_callee (f := 17) rfl ?_); refine goesL_ (some 153) rfl rfl Try.func17 (by kernel_rfl) rfl #[.int .i64 t258, .slice Ao129 t282.length co129, .slice Ao137 t285.length co137] rfl (by (try simp only [List.map_toArray, List.map_cons, List.map_nil]); first | done | rfl | (simp only [List.length_drop, List.length_take]; rfl)) ?_; (with_reducible refine (impl_CountRainbows.calls kj126 t258 _ _ t282 _ _ t285 t290 _ ?side1 ?side2 ?side3 ?side4 A135.out).mono ?_); (case side1 => repeat (first | exact (Kd.R_reads' HO_11.out).2.2 | (with_reducible refine Kd.C_alloc ?_ _) | (with_reducible refine Kd.C_drewN ?_ _) | (with_reducible refine Kd.C_drew ?_))); (case side2 => exact (Kd.R_reads' HO_11.out).2.1); (case side3 => repeat (first | exact (Kd.N_reads' HO_12.out).2.2 | (with_reducible refine Kd.C_alloc ?_ _) | (with_reducible refine Kd.C_drewN ?_ _) | (with_reducible refine Kd.C_drew ?_))); (case side4 => exact (Kd.N_reads' HO_12.out).2.1); rintro e w138 ⟨rfl, hb⟩; refine ⟨_, rfl, ?_⟩; have n0_ := Aside0.mk (Kd.R_below (by (with_reducible repeat (first | apply Kd.R_alloc | apply Kd.R_drewN | apply Kd.R_drew)); exact HO_11.out) hb); have n1_ := Aside0.mk (Kd.N_below (by (with_reducible repeat (first | apply Kd.N_alloc | apply Kd.N_drewN | apply Kd.N_drew)); exact HO_12.out) hb); have n2_ := Aside0.mk (blk_below (g := gb261) (o := .cells #[.int .i64 t259, .int .i64 t260] 25 (0, 0)) (by (with_reducible repeat (first | refine blk_drewN ?_ _ | refine blk_drew ?_ | refine blk_alloc ?_ _)); exact BK261.out) hb); have n3_ := Aside0.mk (blk_below (g := gb264) (o := .cells #[.int .i64 t262, .int .i64 t263] 25 (0, 0)) (by (with_reducible repeat (first | refine blk_drewN ?_ _ | refine blk_drew ?_ | refine blk_alloc ?_ _)); exact BK264.out) hb); have n4_ := Aside0.mk (blk_below (g := gb267) (o := .cells #[.int .i64 t265, .int .i64 t266] 25 (0, 0)) (by (with_reducible repeat (first | refine blk_drewN ?_ _ | refine blk_drew ?_ | refine blk_alloc ?_ _)); exact BK267.out) hb); have n5_ := Aside0.mk (below_step (by repeat (first | (with_reducible first | exact HB.out | apply below_alloc | apply pw_below_drewN | apply below_drew1 | refine below_set ?_ GE261.out | refine below_set ?_ GE264.out | refine below_set ?_ GE267.out) | exact HB.out)) hb); clear HO_11; clear HO_12; clear BK261; clear BK264; clear BK267; clear HB; have HO_11 := n0_; have HO_12 := n1_; have BK261 := n2_; have BK264 := n3_; have BK267 := n4_; have HB := n5_; clear n0_ n1_ n2_ n3_ n4_ n5_; (try clear hb); (try clear hb2); (try clear hk); (try clear hi)))
              (try simp only [Act.put, List.setIfInBounds_toArray, List.set_cons_zero, List.set_cons_succ]); go_cut [172] (fun v172 wc => ∃ (kq : Nat) (x172_135 : Bool), v172 = .bool x172_135 ∧ Aside0 (laws_FnColors.j3 kq t258 x172_135 = some r) ∧ Aside0 (kq ≤ kj126) ∧ Aside0 (wc.heap[gb261]? = some (.cells #[.int .i64 t259, .int .i64 t260] 25 (0, 0))) ∧ Aside0 (wc.heap[gb264]? = some (.cells #[.int .i64 t262, .int .i64 t263] 25 (0, 0))) ∧ Aside0 (wc.heap[gb267]? = some (.cells #[.int .i64 t265, .int .i64 t266] 25 (0, 0))) ∧ Aside0 (Below w.heap.size w wc))
              case first =>
               have H := HC136.out; clear HC136; by_cases c139 : t290 < 1
               ·rw [if_pos c139] at H
                exact (laws_FnColors.j3_dead HT H).elim
               ·rw [if_neg c139] at H
                have c139b0 : decide (t290 < 1) = false := decide_eq_false c139; clear c139; (first | rw [c139b0] | (simp only [i64_w, i32_w]; rw [c139b0]) | skip)
                by_cases c140 : (Int.tmod t290 2) = 1
                ·rw [if_pos c140] at H
                 have c140b0 : ((Int.tmod t290 2) == 1) = true := beq_iff_eq.mpr c140; have c140b1 : ((Int.tmod t290 2) != 1) = false := bne_eq_false_iff_eq.mpr c140; clear c140; replace H := Option.bind_eq_some_iff.mp H; obtain ⟨t291, A1410, H⟩ := H; replace H : (if t291 = true then (laws_FnColors.j3 kj126 t258 (((t285.length : Int) % 2) == 1)) else (laws_FnColors.j3 kj126 t258 false)) = some r := H; have A141 := Aside0.mk A1410; clear A1410; by_cases c142 : t291 = true
                 ·subst c142
                  have H1 : (laws_FnColors.j3 kj126 t258 (((t285.length : Int) % 2) == 1)) = some r := by rw [if_pos rfl] at H; exact H
                  clear H; have H := H1; clear H1; have H' := Aside0.mk H; clear H; go_wp2_with (first | (go_at_call 18; (with_reducible refine (impl_EqualCut.calls kj126 t258 _ _ t282 _ _ t285 true _ ?side1 ?side2 ?side3 ?side4 A141.out).mono ?_); (case side1 => repeat (first | exact (Kd.R_reads' HO_11.out).2.2 | (with_reducible refine Kd.C_alloc ?_ _) | (with_reducible refine Kd.C_drewN ?_ _) | (with_reducible refine Kd.C_drew ?_))); (case side2 => exact (Kd.R_reads' HO_11.out).2.1); (case side3 => repeat (first | exact (Kd.N_reads' HO_12.out).2.2 | (with_reducible refine Kd.C_alloc ?_ _) | (with_reducible refine Kd.C_drewN ?_ _) | (with_reducible refine Kd.C_drew ?_))); (case side4 => exact (Kd.N_reads' HO_12.out).2.1); rintro e w143 ⟨rfl, hb⟩; have n0_ := Aside0.mk (Kd.R_below (by (with_reducible repeat (first | apply Kd.R_alloc | apply Kd.R_drewN | apply Kd.R_drew)); exact HO_11.out) hb); have n1_ := Aside0.mk (Kd.N_below (by (with_reducible repeat (first | apply Kd.N_alloc | apply Kd.N_drewN | apply Kd.N_drew)); exact HO_12.out) hb); have n2_ := Aside0.mk (blk_below (g := gb261) (o := .cells #[.int .i64 t259, .int .i64 t260] 25 (0, 0)) (by (with_reducible repeat (first | refine blk_drewN ?_ _ | refine blk_drew ?_ | refine blk_alloc ?_ _)); exact BK261.out) hb); have n3_ := Aside0.mk (blk_below (g := gb264) (o := .cells #[.int .i64 t262, .int .i64 t263] 25 (0, 0)) (by (with_reducible repeat (first | refine blk_drewN ?_ _ | refine blk_drew ?_ | refine blk_alloc ?_ _)); exact BK264.out) hb); have n4_ := Aside0.mk (blk_below (g := gb267) (o := .cells #[.int .i64 t265, .int .i64 t266] 25 (0, 0)) (by (with_reducible repeat (first | refine blk_drewN ?_ _ | refine blk_drew ?_ | refine blk_alloc ?_ _)); exact BK267.out) hb); have n5_ := Aside0.mk (below_step (by repeat (first | (with_reducible first | exact HB.out | apply below_alloc | apply pw_below_drewN | apply below_drew1 | refine below_set ?_ GE261.out | refine below_set ?_ GE264.out | refine below_set ?_ GE267.out) | exact HB.out)) hb); clear HO_11; clear HO_12; clear BK261; clear BK264; clear BK267; clear HB; have HO_11 := n0_; have HO_12 := n1_; have BK261 := n2_; have BK264 := n3_; have BK267 := n4_; have HB := n5_; clear n0_ n1_ n2_ n3_ n4_ n5_; (try clear hb); (try clear hb2); (try clear hk); (try clear hi)))
                  go_meet
                  case rel => exact ⟨_, ((((t285.length : Int) % 2) == 1)), (by first | rfl | (simp; done) | (simp [*]; done)), H', ⟨by have := HJ13.out; have := HJ81.out; have := HJ126.out; first | omega | exact Nat.le_refl _⟩, ⟨by (with_reducible repeat (first | refine blk_drewN ?_ _ | refine blk_drew ?_ | refine blk_alloc ?_ _)); exact BK261.out⟩, ⟨by (with_reducible repeat (first | refine blk_drewN ?_ _ | refine blk_drew ?_ | refine blk_alloc ?_ _)); exact BK264.out⟩, ⟨by (with_reducible repeat (first | refine blk_drewN ?_ _ | refine blk_drew ?_ | refine blk_alloc ?_ _)); exact BK267.out⟩, ⟨by repeat (first | (with_reducible first | exact HB.out | apply below_alloc | apply pw_below_drewN | apply below_drew1 | refine below_set ?_ GE261.out | refine below_set ?_ GE264.out | refine below_set ?_ GE267.out) | exact HB.out)⟩⟩
                 ·replace c142 := Bool.eq_false_iff.mpr c142
                  subst c142
                  have H1 : (laws_FnColors.j3 kj126 t258 false) = some r := by rw [if_neg (show ¬ (false = true) by decide)] at H; exact H
                  clear H; have H := H1; clear H1; have H' := Aside0.mk H; clear H; go_wp2_with (first | (go_at_call 18; (with_reducible refine (impl_EqualCut.calls kj126 t258 _ _ t282 _ _ t285 false _ ?side1 ?side2 ?side3 ?side4 A141.out).mono ?_); (case side1 => repeat (first | exact (Kd.R_reads' HO_11.out).2.2 | (with_reducible refine Kd.C_alloc ?_ _) | (with_reducible refine Kd.C_drewN ?_ _) | (with_reducible refine Kd.C_drew ?_))); (case side2 => exact (Kd.R_reads' HO_11.out).2.1); (case side3 => repeat (first | exact (Kd.N_reads' HO_12.out).2.2 | (with_reducible refine Kd.C_alloc ?_ _) | (with_reducible refine Kd.C_drewN ?_ _) | (with_reducible refine Kd.C_drew ?_))); (case side4 => exact (Kd.N_reads' HO_12.out).2.1); rintro e w144 ⟨rfl, hb⟩; have n0_ := Aside0.mk (Kd.R_below (by (with_reducible repeat (first | apply Kd.R_alloc | apply Kd.R_drewN | apply Kd.R_drew)); exact HO_11.out) hb); have n1_ := Aside0.mk (Kd.N_below (by (with_reducible repeat (first | apply Kd.N_alloc | apply Kd.N_drewN | apply Kd.N_drew)); exact HO_12.out) hb); have n2_ := Aside0.mk (blk_below (g := gb261) (o := .cells #[.int .i64 t259, .int .i64 t260] 25 (0, 0)) (by (with_reducible repeat (first | refine blk_drewN ?_ _ | refine blk_drew ?_ | refine blk_alloc ?_ _)); exact BK261.out) hb); have n3_ := Aside0.mk (blk_below (g := gb264) (o := .cells #[.int .i64 t262, .int .i64 t263] 25 (0, 0)) (by (with_reducible repeat (first | refine blk_drewN ?_ _ | refine blk_drew ?_ | refine blk_alloc ?_ _)); exact BK264.out) hb); have n4_ := Aside0.mk (blk_below (g := gb267) (o := .cells #[.int .i64 t265, .int .i64 t266] 25 (0, 0)) (by (with_reducible repeat (first | refine blk_drewN ?_ _ | refine blk_drew ?_ | refine blk_alloc ?_ _)); exact BK267.out) hb); have n5_ := Aside0.mk (below_step (by repeat (first | (with_reducible first | exact HB.out | apply below_alloc | apply pw_below_drewN | apply below_drew1 | refine below_set ?_ GE261.out | refine below_set ?_ GE264.out | refine below_set ?_ GE267.out) | exact HB.out)) hb); clear HO_11; clear HO_12; clear BK261; clear BK264; clear BK267; clear HB; have HO_11 := n0_; have HO_12 := n1_; have BK261 := n2_; have BK264 := n3_; have BK267 := n4_; have HB := n5_; clear n0_ n1_ n2_ n3_ n4_ n5_; (try clear hb); (try clear hb2); (try clear hk); (try clear hi)))
                  go_meet
                  case rel => exact ⟨_, (false), (by first | rfl | (simp; done) | (simp [*]; done)), H', ⟨by have := HJ13.out; have := HJ81.out; have := HJ126.out; first | omega | exact Nat.le_refl _⟩, ⟨by (with_reducible repeat (first | refine blk_drewN ?_ _ | refine blk_drew ?_ | refine blk_alloc ?_ _)); exact BK261.out⟩, ⟨by (with_reducible repeat (first | refine blk_drewN ?_ _ | refine blk_drew ?_ | refine blk_alloc ?_ _)); exact BK264.out⟩, ⟨by (with_reducible repeat (first | refine blk_drewN ?_ _ | refine blk_drew ?_ | refine blk_alloc ?_ _)); exact BK267.out⟩, ⟨by repeat (first | (with_reducible first | exact HB.out | apply below_alloc | apply pw_below_drewN | apply below_drew1 | refine below_set ?_ GE261.out | refine below_set ?_ GE264.out | refine below_set ?_ GE267.out) | exact HB.out)⟩⟩
                ·rw [if_neg c140] at H
                 exact (laws_FnColors.j3_dead HT H).elim
              case rest =>
               clear HC136; try clear c1
               try clear c2
               try clear c2b0
               try clear c2b1
               try clear p2
               try clear c3
               try clear c4
               try clear c5
               try clear c6
               try clear p6
               try clear c7
               try clear c8
               try clear c9
               try clear c10
               try clear c11
               try clear c12
               try clear c13
               try clear c14
               try clear c15
               try clear c16
               try clear c17
               try clear c23
               try clear c28
               try clear c29
               try clear c40
               try clear c40b0
               try clear c40b1
               try clear c42
               try clear c42b0
               try clear c42b1
               try clear c45
               try clear c47
               try clear c48
               try clear c48b0
               try clear c50
               try clear c50b0
               try clear c53
               try clear c53b0
               try clear c53b1
               try clear c55
               try clear c56
               try clear c58
               try clear c62
               try clear c62b0
               try clear c62b1
               try clear c64
               try clear p64
               try clear c65
               try clear c67
               try clear c72
               try clear c73
               try clear c75
               try clear c81
               try clear c84
               try clear c86
               try clear c86b0
               try clear c86b1
               try clear c87
               try clear c88
               try clear c90
               try clear c101
               try clear c102
               try clear c104
               try clear c116
               try clear c117
               try clear c119
               try clear c123
               try clear c132
               try clear c133
               try clear c133b0
               try clear c134
               try clear c139
               try clear c139b0
               try clear c140
               try clear c140b0
               try clear c140b1
               try clear c142
               try clear hcz103_0
               try clear hcz103_1
               try clear hcz105_0
               try clear hcz105_1
               try clear hcz106_0
               try clear hcz106_1
               try clear hcz108_0
               try clear hcz108_1
               try clear hcz109_0
               try clear hcz109_1
               try clear hcz110_0
               try clear hcz110_1
               try clear hcz112_0
               try clear hcz112_1
               try clear hcz113_0
               try clear hcz113_1
               try clear hcz114_0
               try clear hcz114_1
               try clear hcz118_0
               try clear hcz118_1
               try clear hcz120_0
               try clear hcz120_1
               try clear hcz121_0
               try clear hcz121_1
               try clear hcz19_0
               try clear hcz19_1
               try clear hcz24_0
               try clear hcz24_1
               try clear hcz30_0
               try clear hcz30_1
               try clear hcz31_0
               try clear hcz31_1
               try clear hcz32_0
               try clear hcz32_1
               try clear hcz34_0
               try clear hcz34_1
               try clear hcz36_0
               try clear hcz36_1
               try clear hcz38_0
               try clear hcz38_1
               try clear hcz57_0
               try clear hcz57_1
               try clear hcz59_0
               try clear hcz59_1
               try clear hcz60_0
               try clear hcz60_1
               try clear hcz66_0
               try clear hcz66_1
               try clear hcz68_0
               try clear hcz68_1
               try clear hcz69_0
               try clear hcz69_1
               try clear hcz74_0
               try clear hcz74_1
               try clear hcz76_0
               try clear hcz76_1
               try clear hcz77_0
               try clear hcz77_1
               try clear hcz89_0
               try clear hcz89_1
               try clear hcz91_0
               try clear hcz91_1
               try clear hcz92_0
               try clear hcz92_1
               try clear hcz94_0
               try clear hcz94_1
               try clear hcz95_0
               try clear hcz95_1
               try clear hcz96_0
               try clear hcz96_1
               try clear hfz103_0
               try clear hfz103_1
               try clear hfz105_0
               try clear hfz105_1
               try clear hfz106_0
               try clear hfz106_1
               try clear hfz108_0
               try clear hfz108_1
               try clear hfz109_0
               try clear hfz109_1
               try clear hfz110_0
               try clear hfz110_1
               try clear hfz112_0
               try clear hfz112_1
               try clear hfz113_0
               try clear hfz113_1
               try clear hfz114_0
               try clear hfz114_1
               try clear hfz118_0
               try clear hfz118_1
               try clear hfz120_0
               try clear hfz120_1
               try clear hfz121_0
               try clear hfz121_1
               try clear hfz19_0
               try clear hfz19_1
               try clear hfz24_0
               try clear hfz24_1
               try clear hfz30_0
               try clear hfz30_1
               try clear hfz31_0
               try clear hfz31_1
               try clear hfz32_0
               try clear hfz32_1
               try clear hfz34_0
               try clear hfz34_1
               try clear hfz36_0
               try clear hfz36_1
               try clear hfz38_0
               try clear hfz38_1
               try clear hfz57_0
               try clear hfz57_1
               try clear hfz59_0
               try clear hfz59_1
               try clear hfz60_0
               try clear hfz60_1
               try clear hfz66_0
               try clear hfz66_1
               try clear hfz68_0
               try clear hfz68_1
               try clear hfz69_0
               try clear hfz69_1
               try clear hfz74_0
               try clear hfz74_1
               try clear hfz76_0
               try clear hfz76_1
               try clear hfz77_0
               try clear hfz77_1
               try clear hfz89_0
               try clear hfz89_1
               try clear hfz91_0
               try clear hfz91_1
               try clear hfz92_0
               try clear hfz92_1
               try clear hfz94_0
               try clear hfz94_1
               try clear hfz95_0
               try clear hfz95_1
               try clear hfz96_0
               try clear hfz96_1
               try clear p2
               try clear p6
               try clear p64
               obtain ⟨kq, x172_135, rfl, HA, HJ135, BK261, BK264, BK267, HB⟩ := hcut
               as_aux_lemma =>
                cases kq with
                | zero => exact absurd HA.out (by simp [laws_FnColors.j3])
                | succ kj135 =>
                 have H := HA.out; clear HA; simp only [laws_FnColors.j3] at H; by_cases c145 : x172_135 = true
                 ·subst c145
                  have H1 : (some false) = some r := by rw [if_pos rfl] at H; exact H
                  exact (laws_FnColors.no_false HT H1).elim
                 ·replace c145 := Bool.eq_false_iff.mpr c145
                  subst c145
                  have H1 : ((impl_RectangleOf.f t258 t258).bind fun t292 => ((impl_EqualCut.f kj135 t258 t292 (([(([0, 1, 2] : List Int)), (([0, 2, 3] : List Int))] : List (List Int)))).bind fun t304 => (if t304 = true then ((impl_HalvingsOf.f kj135 12).bind fun t305 => (if t305 = 2 then ((impl_HalvingsOf.f kj135 0).bind fun t306 => (if t306 = 100 then ((impl_HalvingsOf.f kj135 (-8)).bind fun t307 => (some (t307 == 3))) else (some false))) else (some false))) else (some false)))) = some r := by rw [if_neg (show ¬ (false = true) by decide)] at H; exact H
                  clear H; have H := H1; clear H1; replace H := Option.bind_eq_some_iff.mp H; obtain ⟨t292, A1460, H⟩ := H; replace H : ((impl_EqualCut.f kj135 t258 t292 (([(([0, 1, 2] : List Int)), (([0, 2, 3] : List Int))] : List (List Int)))).bind fun t304 => (if t304 = true then ((impl_HalvingsOf.f kj135 12).bind fun t305 => (if t305 = 2 then ((impl_HalvingsOf.f kj135 0).bind fun t306 => (if t306 = 100 then ((impl_HalvingsOf.f kj135 (-8)).bind fun t307 => (some (t307 == 3))) else (some false))) else (some false))) else (some false))) = some r := H; have A146 := Aside0.mk A1460; clear A1460; obtain ⟨y295, hy295⟩ : ∃ y_ : List Int, y_ = (([0, 1, 2] : List Int)) := ⟨_, rfl⟩; replace H : ((impl_EqualCut.f kj135 t258 t292 (([y295, (([0, 2, 3] : List Int))] : List (List Int)))).bind fun t304 => (if t304 = true then ((impl_HalvingsOf.f kj135 12).bind fun t305 => (if t305 = 2 then ((impl_HalvingsOf.f kj135 0).bind fun t306 => (if t306 = 100 then ((impl_HalvingsOf.f kj135 (-8)).bind fun t307 => (some (t307 == 3))) else (some false))) else (some false))) else (some false))) = some r := by first | (rw [hy295]; with_reducible exact H) | (have H2_ := (Option.bind_some _ _).symm.trans H; rw [hy295]; with_reducible exact H2_) | (have H2_ := (Option.bind_some _ _).symm.trans H; with_reducible exact H2_) | with_reducible exact H | (rw [hy295]; exact H) | exact H
                  have Ny295 := Aside0.mk hy295; clear hy295; obtain ⟨y298, hy298⟩ : ∃ y_ : List Int, y_ = (([0, 2, 3] : List Int)) := ⟨_, rfl⟩; replace H : ((impl_EqualCut.f kj135 t258 t292 (([y295, y298] : List (List Int)))).bind fun t304 => (if t304 = true then ((impl_HalvingsOf.f kj135 12).bind fun t305 => (if t305 = 2 then ((impl_HalvingsOf.f kj135 0).bind fun t306 => (if t306 = 100 then ((impl_HalvingsOf.f kj135 (-8)).bind fun t307 => (some (t307 == 3))) else (some false))) else (some false))) else (some false))) = some r := by first | (rw [hy298]; with_reducible exact H) | (have H2_ := (Option.bind_some _ _).symm.trans H; rw [hy298]; with_reducible exact H2_) | (have H2_ := (Option.bind_some _ _).symm.trans H; with_reducible exact H2_) | with_reducible exact H | (rw [hy298]; exact H) | exact H
                  have Ny298 := Aside0.mk hy298; clear hy298; obtain ⟨y301, hy301⟩ : ∃ y_ : List (List Int), y_ = (([y295, y298] : List (List Int))) := ⟨_, rfl⟩; replace H : ((impl_EqualCut.f kj135 t258 t292 y301).bind fun t304 => (if t304 = true then ((impl_HalvingsOf.f kj135 12).bind fun t305 => (if t305 = 2 then ((impl_HalvingsOf.f kj135 0).bind fun t306 => (if t306 = 100 then ((impl_HalvingsOf.f kj135 (-8)).bind fun t307 => (some (t307 == 3))) else (some false))) else (some false))) else (some false))) = some r := by first | (rw [hy301]; with_reducible exact H) | (have H2_ := (Option.bind_some _ _).symm.trans H; rw [hy301]; with_reducible exact H2_) | (have H2_ := (Option.bind_some _ _).symm.trans H; with_reducible exact H2_) | with_reducible exact H | (rw [hy301]; exact H) | exact H
                  have Ny301 := Aside0.mk hy301; clear hy301; replace H := Option.bind_eq_some_iff.mp H; obtain ⟨t304, A1470, H⟩ := H; replace H : (if t304 = true then ((impl_HalvingsOf.f kj135 12).bind fun t305 => (if t305 = 2 then ((impl_HalvingsOf.f kj135 0).bind fun t306 => (if t306 = 100 then ((impl_HalvingsOf.f kj135 (-8)).bind fun t307 => (some (t307 == 3))) else (some false))) else (some false))) else (some false)) = some r := H; have A147 := Aside0.mk A1470; clear A1470; by_cases c148 : t304 = true
                  ·subst c148
                   have H1 : ((impl_HalvingsOf.f kj135 12).bind fun t305 => (if t305 = 2 then ((impl_HalvingsOf.f kj135 0).bind fun t306 => (if t306 = 100 then ((impl_HalvingsOf.f kj135 (-8)).bind fun t307 => (some (t307 == 3))) else (some false))) else (some false))) = some r := by rw [if_pos rfl] at H; exact H
                   clear H; have H := H1; clear H1; replace H := Option.bind_eq_some_iff.mp H; obtain ⟨t305, A1490, H⟩ := H; replace H : (if t305 = 2 then ((impl_HalvingsOf.f kj135 0).bind fun t306 => (if t306 = 100 then ((impl_HalvingsOf.f kj135 (-8)).bind fun t307 => (some (t307 == 3))) else (some false))) else (some false)) = some r := H; have A149 := Aside0.mk A1490; clear A1490; by_cases c150 : t305 = 2
                   ·rw [if_pos c150] at H
                    have c150b0 : (t305 == 2) = true := beq_iff_eq.mpr c150; have c150b1 : (t305 != 2) = false := bne_eq_false_iff_eq.mpr c150; clear c150; replace H := Option.bind_eq_some_iff.mp H; obtain ⟨t306, A1510, H⟩ := H; replace H : (if t306 = 100 then ((impl_HalvingsOf.f kj135 (-8)).bind fun t307 => (some (t307 == 3))) else (some false)) = some r := H; have A151 := Aside0.mk A1510; clear A1510; by_cases c152 : t306 = 100
                    ·rw [if_pos c152] at H
                     have c152b0 : (t306 == 100) = true := beq_iff_eq.mpr c152; have c152b1 : (t306 != 100) = false := bne_eq_false_iff_eq.mpr c152; clear c152; replace H := Option.bind_eq_some_iff.mp H; obtain ⟨t307, A1530, H⟩ := H; replace H : (some (t307 == 3)) = some r := H; have A153 := Aside0.mk A1530; clear A1530; obtain rfl := Option.some.inj H; go_wp2_with (first | (go_at_call 19; (with_reducible refine (impl_RectangleOf.calls t258 t258 t292 _ A146.out).mono ?_); rintro e w154 ⟨v293, rfl, ho0, hb⟩; have n0_ := Aside0.mk (Kd.R_lower (Kd.R_newB (Kd.R_newB (Kd.R_newB ho0 (g := gb261) (o := .cells #[.int .i64 t259, .int .i64 t260] 25 (0, 0)) (by (with_reducible repeat (first | refine blk_drewN ?_ _ | refine blk_drew ?_ | refine blk_alloc ?_ _)); exact BK261.out)) (g := gb264) (o := .cells #[.int .i64 t262, .int .i64 t263] 25 (0, 0)) (by (with_reducible repeat (first | refine blk_drewN ?_ _ | refine blk_drew ?_ | refine blk_alloc ?_ _)); exact BK264.out)) (g := gb267) (o := .cells #[.int .i64 t265, .int .i64 t266] 25 (0, 0)) (by (with_reducible repeat (first | refine blk_drewN ?_ _ | refine blk_drew ?_ | refine blk_alloc ?_ _)); exact BK267.out)) (below_size (by repeat (first | (with_reducible first | exact HB.out | apply below_alloc | apply pw_below_drewN | apply below_drew1 | refine below_set ?_ GE261.out | refine below_set ?_ GE264.out | refine below_set ?_ GE267.out) | exact HB.out)))); have n1_ := Aside0.mk (blk_below (g := gb261) (o := .cells #[.int .i64 t259, .int .i64 t260] 25 (0, 0)) (by (with_reducible repeat (first | refine blk_drewN ?_ _ | refine blk_drew ?_ | refine blk_alloc ?_ _)); exact BK261.out) hb); have n2_ := Aside0.mk (blk_below (g := gb264) (o := .cells #[.int .i64 t262, .int .i64 t263] 25 (0, 0)) (by (with_reducible repeat (first | refine blk_drewN ?_ _ | refine blk_drew ?_ | refine blk_alloc ?_ _)); exact BK264.out) hb); have n3_ := Aside0.mk (blk_below (g := gb267) (o := .cells #[.int .i64 t265, .int .i64 t266] 25 (0, 0)) (by (with_reducible repeat (first | refine blk_drewN ?_ _ | refine blk_drew ?_ | refine blk_alloc ?_ _)); exact BK267.out) hb); have n4_ := Aside0.mk (below_step (by repeat (first | (with_reducible first | exact HB.out | apply below_alloc | apply pw_below_drewN | apply below_drew1 | refine below_set ?_ GE261.out | refine below_set ?_ GE264.out | refine below_set ?_ GE267.out) | exact HB.out)) hb); clear BK261; clear BK264; clear BK267; clear HB; have HO294 := n0_; have BK261 := n1_; have BK264 := n2_; have BK267 := n3_; have HB := n4_; clear n0_ n1_ n2_ n3_ n4_; (try clear hb); (try clear hb2); (try clear hk); (try clear hi); (try clear ho0)) | ((with_reducible refine gate_dst (N := 178) rfl ?_); (try (refine gate_guard (by rfl) ?_; dsimp only)); refine Kd.R_lit (Kd.int .i64) _ 3 ?hg (N := 178) ?hd (xs := ([0, 1, 2] : List Int)) (inner := [.int .i64 0, .int .i64 1, .int .i64 2]) (ok := fun _ => True) (okp := fun _ => True) ?hr ?hp (fun _ hk => hk) trivial (Below.refl _ _) (Nat.le_refl _) (by simp) ?_; (case hd => rfl); (case hg => rfl); (case hr => first | (go_simp; done) | (go_simp; rfl)); (case hp => exact (Reps.one (show Kd.M (Kd.int .i64) _ _ _ 0 [.int .i64 0] from rfl) (Reps.one (show Kd.M (Kd.int .i64) _ _ _ 1 [.int .i64 1] from rfl) (Reps.one (show Kd.M (Kd.int .i64) _ _ _ 2 [.int .i64 2] from rfl) (Reps.none _ _))))); intro v296 w155 ho156 hb hg_ hnew_; clear hg_ hnew_; (first | rw [← Ny295.out] at ho156 | (simp only [Int.reduceToNat] at ho156; rw [← Ny295.out] at ho156)); have n0_ := Aside0.mk (Kd.R_below (by (with_reducible repeat (first | apply Kd.R_alloc | apply Kd.R_drewN | apply Kd.R_drew)); exact HO294.out) hb); have n1_ := Aside0.mk (Kd.R_lower ho156 (below_size (by repeat (first | (with_reducible first | exact HB.out | apply below_alloc | apply pw_below_drewN | apply below_drew1 | refine below_set ?_ GE261.out | refine below_set ?_ GE264.out | refine below_set ?_ GE267.out) | exact HB.out)))); have n2_ := Aside0.mk (blk_below (g := gb261) (o := .cells #[.int .i64 t259, .int .i64 t260] 25 (0, 0)) (by (with_reducible repeat (first | refine blk_drewN ?_ _ | refine blk_drew ?_ | refine blk_alloc ?_ _)); exact BK261.out) hb); have n3_ := Aside0.mk (blk_below (g := gb264) (o := .cells #[.int .i64 t262, .int .i64 t263] 25 (0, 0)) (by (with_reducible repeat (first | refine blk_drewN ?_ _ | refine blk_drew ?_ | refine blk_alloc ?_ _)); exact BK264.out) hb); have n4_ := Aside0.mk (blk_below (g := gb267) (o := .cells #[.int .i64 t265, .int .i64 t266] 25 (0, 0)) (by (with_reducible repeat (first | refine blk_drewN ?_ _ | refine blk_drew ?_ | refine blk_alloc ?_ _)); exact BK267.out) hb); have n5_ := Aside0.mk (below_step (by repeat (first | (with_reducible first | exact HB.out | apply below_alloc | apply pw_below_drewN | apply below_drew1 | refine below_set ?_ GE261.out | refine below_set ?_ GE264.out | refine below_set ?_ GE267.out) | exact HB.out)) hb); clear HO294; clear BK261; clear BK264; clear BK267; clear HB; have HO294 := n0_; have HO297 := n1_; have BK261 := n2_; have BK264 := n3_; have BK267 := n4_; have HB := n5_; clear n0_ n1_ n2_ n3_ n4_ n5_; clear hb ho156) | ((with_reducible refine gate_dst (N := 179) rfl ?_); (try (refine gate_guard (by rfl) ?_; dsimp only)); refine Kd.R_lit (Kd.int .i64) _ 3 ?hg (N := 179) ?hd (xs := ([0, 2, 3] : List Int)) (inner := [.int .i64 0, .int .i64 2, .int .i64 3]) (ok := fun _ => True) (okp := fun _ => True) ?hr ?hp (fun _ hk => hk) trivial (Below.refl _ _) (Nat.le_refl _) (by simp) ?_; (case hd => rfl); (case hg => rfl); (case hr => first | (go_simp; done) | (go_simp; rfl)); (case hp => exact (Reps.one (show Kd.M (Kd.int .i64) _ _ _ 0 [.int .i64 0] from rfl) (Reps.one (show Kd.M (Kd.int .i64) _ _ _ 2 [.int .i64 2] from rfl) (Reps.one (show Kd.M (Kd.int .i64) _ _ _ 3 [.int .i64 3] from rfl) (Reps.none _ _))))); intro v299 w157 ho158 hb hg_ hnew_; clear hg_ hnew_; (first | rw [← Ny298.out] at ho158 | (simp only [Int.reduceToNat] at ho158; rw [← Ny298.out] at ho158)); have n0_ := Aside0.mk (Kd.R_below (by (with_reducible repeat (first | apply Kd.R_alloc | apply Kd.R_drewN | apply Kd.R_drew)); exact HO294.out) hb); have n1_ := Aside0.mk (Kd.R_elder' (by (with_reducible repeat (first | apply Kd.R_alloc | apply Kd.R_drewN | apply Kd.R_drew)); exact HO297.out) (Kd.R_base ho158) hb); have n2_ := Aside0.mk (Kd.R_lower (Kd.R_new' ho158 (Kd.R_lt (by (with_reducible repeat (first | apply Kd.R_alloc | apply Kd.R_drewN | apply Kd.R_drew)); exact HO297.out))) (below_size (by repeat (first | (with_reducible first | exact HB.out | apply below_alloc | apply pw_below_drewN | apply below_drew1 | refine below_set ?_ GE261.out | refine below_set ?_ GE264.out | refine below_set ?_ GE267.out) | exact HB.out)))); have n3_ := Aside0.mk (blk_below (g := gb261) (o := .cells #[.int .i64 t259, .int .i64 t260] 25 (0, 0)) (by (with_reducible repeat (first | refine blk_drewN ?_ _ | refine blk_drew ?_ | refine blk_alloc ?_ _)); exact BK261.out) hb); have n4_ := Aside0.mk (blk_below (g := gb264) (o := .cells #[.int .i64 t262, .int .i64 t263] 25 (0, 0)) (by (with_reducible repeat (first | refine blk_drewN ?_ _ | refine blk_drew ?_ | refine blk_alloc ?_ _)); exact BK264.out) hb); have n5_ := Aside0.mk (blk_below (g := gb267) (o := .cells #[.int .i64 t265, .int .i64 t266] 25 (0, 0)) (by (with_reducible repeat (first | refine blk_drewN ?_ _ | refine blk_drew ?_ | refine blk_alloc ?_ _)); exact BK267.out) hb); have n6_ := Aside0.mk (below_step (by repeat (first | (with_reducible first | exact HB.out | apply below_alloc | apply pw_below_drewN | apply below_drew1 | refine below_set ?_ GE261.out | refine below_set ?_ GE264.out | refine below_set ?_ GE267.out) | exact HB.out)) hb); clear HO294; clear HO297; clear BK261; clear BK264; clear BK267; clear HB; have HO294 := n0_; have HO297 := n1_; have HO300 := n2_; have BK261 := n3_; have BK264 := n4_; have BK267 := n5_; have HB := n6_; clear n0_ n1_ n2_ n3_ n4_ n5_ n6_; clear hb ho158; obtain ⟨Ao159, co159, eo159⟩ := Kd.R_slice HO297.out; subst eo159; obtain ⟨Ao160, co160, eo160⟩ := Kd.R_slice HO300.out; subst eo160) | ((with_reducible refine gate_dst (N := 180) rfl ?_); (try (refine gate_guard (by rfl) ?_; dsimp only)); refine Kd.N_lit (Kd.slice 3 (Kd.int .i64)) _ 26 ?hg (N' := 180) ?hd (xs := ([y295, y298] : List (List Int))) (inner := [.slice Ao159 y295.length co159, .slice Ao160 y298.length co160]) (ok := (fun k_ => some k_ ≠ (v293 : Value).ownBlock ∧ k_ ≠ gb261 ∧ k_ ≠ gb264 ∧ k_ ≠ gb267)) (okp := (fun k_ => some k_ ≠ (v293 : Value).ownBlock ∧ k_ ≠ gb261 ∧ k_ ≠ gb264 ∧ k_ ≠ gb267)) ?hr ?hp (fun _ hk => hk) ((show ∀ k_, w157.heap.size ≤ k_ → (fun k_ => some k_ ≠ (v293 : Value).ownBlock ∧ k_ ≠ gb261 ∧ k_ ≠ gb264 ∧ k_ ≠ gb267) k_ from fun k_ hk => ⟨Kd.fresh' (Kd.R_lt (by (with_reducible repeat (first | apply Kd.R_alloc | apply Kd.R_drewN | apply Kd.R_drew)); exact HO294.out)) k_ hk, Kd.freshB (g := gb261) (o := .cells #[.int .i64 t259, .int .i64 t260] 25 (0, 0)) (by (with_reducible repeat (first | refine blk_drewN ?_ _ | refine blk_drew ?_ | refine blk_alloc ?_ _)); exact BK261.out) k_ hk, Kd.freshB (g := gb264) (o := .cells #[.int .i64 t262, .int .i64 t263] 25 (0, 0)) (by (with_reducible repeat (first | refine blk_drewN ?_ _ | refine blk_drew ?_ | refine blk_alloc ?_ _)); exact BK264.out) k_ hk, Kd.freshB (g := gb267) (o := .cells #[.int .i64 t265, .int .i64 t266] 25 (0, 0)) (by (with_reducible repeat (first | refine blk_drewN ?_ _ | refine blk_drew ?_ | refine blk_alloc ?_ _)); exact BK267.out) k_ hk⟩) _ (Nat.le_refl _)) (Below.refl _ _) (Nat.le_refl _) (by simp) ?_; (case hd => rfl); (case hg => rfl); (case hr => first | (go_simp; done) | (go_simp; rfl)); (case hp => exact (Reps.one (show Kd.FK (Kd.slice 3 (Kd.int .i64)) _ _ y295 [.slice Ao159 y295.length co159] from (Kd.FK_slice_mk (Kd.R_reads' (Kd.R_mono (ok' := (fun k_ => some k_ ≠ (v293 : Value).ownBlock ∧ k_ ≠ gb261 ∧ k_ ≠ gb264 ∧ k_ ≠ gb267)) (Kd.R_types (Kd.R_types (Kd.R_types (Kd.R_apart' (HO297.out) (Kd.R_typed HO294.out) (by decide)) BK261.out (by decide)) BK264.out (by decide)) BK267.out (by decide)) (fun k_ hk => ⟨hk.1.1.1.2, ⟨hk.1.1.2, ⟨hk.1.2, hk.2⟩⟩⟩))).2.1 (Kd.R_F (Kd.R_mono (ok' := (fun k_ => some k_ ≠ (v293 : Value).ownBlock ∧ k_ ≠ gb261 ∧ k_ ≠ gb264 ∧ k_ ≠ gb267)) (Kd.R_types (Kd.R_types (Kd.R_types (Kd.R_apart' (HO297.out) (Kd.R_typed HO294.out) (by decide)) BK261.out (by decide)) BK264.out (by decide)) BK267.out (by decide)) (fun k_ hk => ⟨hk.1.1.1.2, ⟨hk.1.1.2, ⟨hk.1.2, hk.2⟩⟩⟩))))) (Reps.one (show Kd.FK (Kd.slice 3 (Kd.int .i64)) _ _ y298 [.slice Ao160 y298.length co160] from (Kd.FK_slice_mk (Kd.R_reads' (Kd.R_mono (ok' := (fun k_ => some k_ ≠ (v293 : Value).ownBlock ∧ k_ ≠ gb261 ∧ k_ ≠ gb264 ∧ k_ ≠ gb267)) (Kd.R_types (Kd.R_types (Kd.R_types (Kd.R_apart' (HO300.out) (Kd.R_typed HO294.out) (by decide)) BK261.out (by decide)) BK264.out (by decide)) BK267.out (by decide)) (fun k_ hk => ⟨hk.1.1.1.2, ⟨hk.1.1.2, ⟨hk.1.2, hk.2⟩⟩⟩))).2.1 (Kd.R_F (Kd.R_mono (ok' := (fun k_ => some k_ ≠ (v293 : Value).ownBlock ∧ k_ ≠ gb261 ∧ k_ ≠ gb264 ∧ k_ ≠ gb267)) (Kd.R_types (Kd.R_types (Kd.R_types (Kd.R_apart' (HO300.out) (Kd.R_typed HO294.out) (by decide)) BK261.out (by decide)) BK264.out (by decide)) BK267.out (by decide)) (fun k_ hk => ⟨hk.1.1.1.2, ⟨hk.1.1.2, ⟨hk.1.2, hk.2⟩⟩⟩))))) (Reps.none _ _)))); intro v302 w161 ho162 hb hg_ hnew_; clear hg_ hnew_; (first | rw [← Ny301.out] at ho162 | (simp only [Int.reduceToNat] at ho162; rw [← Ny301.out] at ho162)); have n0_ := Aside0.mk (Kd.R_below (by (with_reducible repeat (first | apply Kd.R_alloc | apply Kd.R_drewN | apply Kd.R_drew)); exact HO294.out) hb); have n1_ := Aside0.mk (Kd.N_lower ho162 (below_size (by repeat (first | (with_reducible first | exact HB.out | apply below_alloc | apply pw_below_drewN | apply below_drew1 | refine below_set ?_ GE261.out | refine below_set ?_ GE264.out | refine below_set ?_ GE267.out) | exact HB.out)))); have n2_ := Aside0.mk (blk_below (g := gb261) (o := .cells #[.int .i64 t259, .int .i64 t260] 25 (0, 0)) (by (with_reducible repeat (first | refine blk_drewN ?_ _ | refine blk_drew ?_ | refine blk_alloc ?_ _)); exact BK261.out) hb); have n3_ := Aside0.mk (blk_below (g := gb264) (o := .cells #[.int .i64 t262, .int .i64 t263] 25 (0, 0)) (by (with_reducible repeat (first | refine blk_drewN ?_ _ | refine blk_drew ?_ | refine blk_alloc ?_ _)); exact BK264.out) hb); have n4_ := Aside0.mk (blk_below (g := gb267) (o := .cells #[.int .i64 t265, .int .i64 t266] 25 (0, 0)) (by (with_reducible repeat (first | refine blk_drewN ?_ _ | refine blk_drew ?_ | refine blk_alloc ?_ _)); exact BK267.out) hb); have n5_ := Aside0.mk (below_step (by repeat (first | (with_reducible first | exact HB.out | apply below_alloc | apply pw_below_drewN | apply below_drew1 | refine below_set ?_ GE261.out | refine below_set ?_ GE264.out | refine below_set ?_ GE267.out) | exact HB.out)) hb); clear HO294; clear BK261; clear BK264; clear BK267; clear HB; clear HO297; clear HO300; have HO294 := n0_; have HO303 := n1_; have BK261 := n2_; have BK264 := n3_; have BK267 := n4_; have HB := n5_; clear n0_ n1_ n2_ n3_ n4_ n5_; clear hb ho162; obtain ⟨Ao163, co163, eo163⟩ := Kd.R_slice HO294.out; subst eo163; obtain ⟨Ao164, co164, eo164⟩ := Kd.N_slice HO303.out; subst eo164) | ((with_reducible refine gate_callee (f := 18) rfl ?_); refine goesL_ (some 181) rfl rfl Try.func18 (by kernel_rfl) rfl #[.int .i64 t258, .slice Ao163 t292.length co163, .slice Ao164 y301.length co164] rfl (by (try simp only [List.map_toArray, List.map_cons, List.map_nil]); first | done | rfl | (simp only [List.length_drop, List.length_take]; rfl)) ?_; (with_reducible refine (impl_EqualCut.calls kj135 t258 _ _ t292 _ _ y301 true _ ?side1 ?side2 ?side3 ?side4 A147.out).mono ?_); (case side1 => repeat (first | exact (Kd.R_reads' HO294.out).2.2 | (with_reducible refine Kd.C_alloc ?_ _) | (with_reducible refine Kd.C_drewN ?_ _) | (with_reducible refine Kd.C_drew ?_))); (case side2 => exact (Kd.R_reads' HO294.out).2.1); (case side3 => repeat (first | exact (Kd.N_reads' HO303.out).2.2 | (with_reducible refine Kd.C_alloc ?_ _) | (with_reducible refine Kd.C_drewN ?_ _) | (with_reducible refine Kd.C_drew ?_))); (case side4 => exact (Kd.N_reads' HO303.out).2.1); rintro e w165 ⟨rfl, hb⟩; refine ⟨_, rfl, ?_⟩; have n0_ := Aside0.mk (Kd.R_below (by (with_reducible repeat (first | apply Kd.R_alloc | apply Kd.R_drewN | apply Kd.R_drew)); exact HO294.out) hb); have n1_ := Aside0.mk (Kd.N_below (by (with_reducible repeat (first | apply Kd.N_alloc | apply Kd.N_drewN | apply Kd.N_drew)); exact HO303.out) hb); have n2_ := Aside0.mk (blk_below (g := gb261) (o := .cells #[.int .i64 t259, .int .i64 t260] 25 (0, 0)) (by (with_reducible repeat (first | refine blk_drewN ?_ _ | refine blk_drew ?_ | refine blk_alloc ?_ _)); exact BK261.out) hb); have n3_ := Aside0.mk (blk_below (g := gb264) (o := .cells #[.int .i64 t262, .int .i64 t263] 25 (0, 0)) (by (with_reducible repeat (first | refine blk_drewN ?_ _ | refine blk_drew ?_ | refine blk_alloc ?_ _)); exact BK264.out) hb); have n4_ := Aside0.mk (blk_below (g := gb267) (o := .cells #[.int .i64 t265, .int .i64 t266] 25 (0, 0)) (by (with_reducible repeat (first | refine blk_drewN ?_ _ | refine blk_drew ?_ | refine blk_alloc ?_ _)); exact BK267.out) hb); have n5_ := Aside0.mk (below_step (by repeat (first | (with_reducible first | exact HB.out | apply below_alloc | apply pw_below_drewN | apply below_drew1 | refine below_set ?_ GE261.out | refine below_set ?_ GE264.out | refine below_set ?_ GE267.out) | exact HB.out)) hb); clear HO294; clear HO303; clear BK261; clear BK264; clear BK267; clear HB; have HO294 := n0_; have HO303 := n1_; have BK261 := n2_; have BK264 := n3_; have BK267 := n4_; have HB := n5_; clear n0_ n1_ n2_ n3_ n4_ n5_; (try clear hb); (try clear hb2); (try clear hk); (try clear hi)) | (go_at_call 13; (with_reducible refine (impl_HalvingsOf.calls kj135 12 t305 _ A149.out).mono ?_); rintro e w' ⟨rfl, ⟨nd, rfl⟩⟩) | (go_at_call 13; (with_reducible refine (impl_HalvingsOf.calls kj135 0 t306 _ A151.out).mono ?_); rintro e w' ⟨rfl, ⟨nd, rfl⟩⟩) | (go_at_call 13; (with_reducible refine (impl_HalvingsOf.calls kj135 (-8) t307 _ A153.out).mono ?_); rintro e w' ⟨rfl, ⟨nd, rfl⟩⟩))
                     go_ret
                     exact ⟨by first | rfl | (simp [errW_none, errW_some] <;> rfl) | (simp [*, errW_none, errW_some] <;> rfl), by repeat (first | (with_reducible first | exact HB.out | apply below_alloc | apply pw_below_drewN | apply below_drew1 | refine below_set ?_ GE261.out | refine below_set ?_ GE264.out | refine below_set ?_ GE267.out) | exact HB.out)⟩
                    ·rw [if_neg c152] at H
                     exact (laws_FnColors.no_false HT H).elim
                   ·rw [if_neg c150] at H
                    exact (laws_FnColors.no_false HT H).elim
                  ·replace c148 := Bool.eq_false_iff.mpr c148
                   subst c148
                   have H1 : (some false) = some r := by rw [if_neg (show ¬ (false = true) by decide)] at H; exact H
                   exact (laws_FnColors.no_false HT H1).elim/-- THE ONE PLAIN STATEMENT of laws_FnColors. -/
def laws_FnColors.Pure : Prop := ∀ (l0 : List Int), l0.length ≤ maxLen → l0.length * 1 ≤ 140737488351232 → (∀ x ∈ l0, (Lit.int .u8 x).wf = true) → ∃ k, laws_FnColors.f k l0 = some true
theorem laws_FnColors.walk (P : laws_FnColors.Pure) (A0 : Option Addr) (c0 : Nat) (l0 : List Int) (w : World) (hr0 : Kd.C (Kd.int .u8) w A0 l0.length l0) (hc0 : l0.length ≤ c0) (hm0 : l0.length ≤ maxLen) (y0 : l0.length * 1 ≤ 140737488351232) (hw0 : (∀ x ∈ l0, (Lit.int .u8 x).wf = true)) :
  Calls Try.prog 3 #[.slice A0 l0.length c0] w fun e w' => e = .returned (.bool true) ∧ Below w.heap.size w w' := by
 obtain ⟨k, h⟩ := P l0 hm0 y0 hw0
 refine (laws_FnColors.calls k _ _ l0 true w hr0 hc0 h rfl).mono ?_
 rintro e w' ⟨rfl, hd⟩
 exact ⟨rfl, hd⟩

end Go.Proofs.Ytihnhpohbpfkmaa.XFnColors
