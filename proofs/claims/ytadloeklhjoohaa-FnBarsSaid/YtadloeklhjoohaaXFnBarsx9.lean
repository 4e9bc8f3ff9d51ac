/- What functions of the program compute, as plain Lean functions, and that Go's calls come to just that: written by wip/tools/xprint.py for the law FnBars. -/
import Derived.Test.YtadloeklhjoohaaXFnBarsx0
import Derived.Test.YtadloeklhjoohaaXFnBarsx1
import Derived.Test.YtadloeklhjoohaaXFnBarsx3
import Derived.Test.YtadloeklhjoohaaXFnBarsx5
import Derived.Test.YtadloeklhjoohaaXFnBarsx6
import Derived.Test.YtadloeklhjoohaaXFnBarsx8
namespace Go.Proofs.Ytadloeklhjoohaa.XFnBars
open Go.RowKit Go.Proofs.YtadloeklhjoohaaW.PrintWords Go.Proofs.YtadloeklhjoohaaW.PrintLast Go.Proofs.YtadloeklhjoohaaW.PrintMore
attribute [local go_sem] max2_int min2_int max_two min_two max_three min_three max_four min_four   -- for this text's walks alone
set_option linter.unusedVariables false
set_option linter.unusedSimpArgs false

/-! ### laws_FnBars: function 5 -/
theorem laws_FnBars.yield_undef (f : Bool → Option Bool) (g : Option Value → Option Bool) : Go.yielded.match_1 (fun _ => Option Bool) (some undef) f g = g (some undef) := rfl
attribute [local go_sem] laws_FnBars.yield_undef
mutual
def laws_FnBars.j0 : Nat → Int → List Int → List Int → List Int → List Int → Int → Int → Bool → Option (Bool)
  | 0, _, _, _, _, _, _, _, _ => none
  | k + 1, x3, x4, x5, x6, x7, x9, x10, x109 => if x109 = true then (some false) else (if (x4.length : Int) > 0 then ((impl_CountBars.f k x5).bind fun t286 => (if t286 > (wrap64 (2 * x10)) then (laws_FnBars.j1 k x3 x4 x7 x9 true) else ((impl_CountBars.f k x6).bind fun t287 => (laws_FnBars.j1 k x3 x4 x7 x9 (decide ((wrap64 (9 * t287)) > (wrap64 ((wrap64 (11 * x9)) + 6)))))))) else ((impl_CountBars.f k x6).bind fun t288 => (laws_FnBars.j1 k x3 x4 x7 x9 (decide ((wrap64 (9 * t288)) > (wrap64 ((wrap64 (11 * x9)) + 6)))))))
def laws_FnBars.j1 : Nat → Int → List Int → List Int → Int → Bool → Option (Bool)
  | 0, _, _, _, _, _ => none
  | k + 1, x3, x4, x7, x9, x128 => if x128 = true then (some false) else ((impl_LeftOn.f k x3 x4 x7).bind fun t289 => (if (t289.length : Int) = x9 then ((laws_sum.f k t289).bind fun t292 => ((laws_sum.f k x4).bind fun t293 => (laws_FnBars.j2 k x3 x4 x9 t289 ((wrap64 (t292 + t293)) != (wrap64 (x9 * x3)))))) else (laws_FnBars.j2 k x3 x4 x9 t289 true)))
def laws_FnBars.j2 : Nat → Int → List Int → Int → List Int → Bool → Option (Bool)
  | 0, _, _, _, _, _ => none
  | k + 1, x3, x4, x9, x11, x147 => if x147 = true then (some false) else (laws_FnBars.l0 k x3 x4 x9 x11 (x11.length : Int) 0)
def laws_FnBars.l0 : Nat → Int → List Int → Int → List Int → Int → Int → Option (Bool)
  | 0, _, _, _, _, _, _ => none
  | k + 1, x3, x4, x9, x11, x149, x150 => if x150 < x149 then (if 0 ≤ x150 then (if x150 < (x11.length : Int) then (if (rd x11 x150) < 0 then (some false) else (if (rd x11 x150) ≥ x3 then (some false) else (laws_FnBars.l0 k x3 x4 x9 x11 x149 (wrap64 (x150 + 1))))) else (none)) else (none)) else ((impl_CountBars.f k ([] : List Int)).bind fun t295 => (if t295 = 0 then (some (((x4.length : Int) == 0) == (x9 == 0))) else (some false)))
end
def laws_FnBars.f (k : Nat) (l0 : List Int) : Option (Bool) := if (l0.length : Int) > 1048576 then (some true) else ((spec_MakeBars.f k l0 0).bind fun bt259 => ((impl_FirstFit.f k bt259.1 bt259.2).bind fun t263 => ((impl_LongFirst.f k bt259.1 bt259.2).bind fun t266 => ((impl_BestBars.f k bt259.1 bt259.2).bind fun bt269 => ((impl_FewestBars.f k bt259.1 bt259.2).bind fun t273 => ((impl_BarBound.f k bt259.1 bt259.2).bind fun t274 => (if bt269.2 = true then ((impl_BarsOk.f bt259.1 bt259.2).bind fun t275 => (if t275 = true then ((impl_BarPlanOk.f k bt259.1 bt259.2 t263).bind fun t276 => (if t276 = true then ((impl_BarPlanOk.f k bt259.1 bt259.2 t266).bind fun t277 => (if t277 = true then ((impl_BarPlanOk.f k bt259.1 bt259.2 bt269.1).bind fun t278 => (if t278 = true then ((impl_CountBars.f k bt269.1).bind fun t279 => (if t279 = t273 then (if t273 < t274 then (laws_FnBars.j0 k bt259.1 bt259.2 t263 t266 bt269.1 t273 t274 true) else ((impl_CountBars.f k t263).bind fun t280 => (if t280 < t273 then (laws_FnBars.j0 k bt259.1 bt259.2 t263 t266 bt269.1 t273 t274 true) else ((impl_CountBars.f k t266).bind fun t281 => (if t281 < t273 then (laws_FnBars.j0 k bt259.1 bt259.2 t263 t266 bt269.1 t273 t274 true) else ((laws_before.f k t263 bt269.1).bind fun t282 => (if t282 = true then ((impl_CountBars.f k t263).bind fun t283 => (if t283 = t273 then (laws_FnBars.j0 k bt259.1 bt259.2 t263 t266 bt269.1 t273 t274 true) else ((impl_IsTightPlan.f k bt259.1 bt259.2 t263).bind fun t284 => (laws_FnBars.j0 k bt259.1 bt259.2 t263 t266 bt269.1 t273 t274 (!t284))))) else ((impl_IsTightPlan.f k bt259.1 bt259.2 t263).bind fun t285 => (laws_FnBars.j0 k bt259.1 bt259.2 t263 t266 bt269.1 t273 t274 (!t285)))))))))) else (laws_FnBars.j0 k bt259.1 bt259.2 t263 t266 bt269.1 t273 t274 true))) else (laws_FnBars.j0 k bt259.1 bt259.2 t263 t266 bt269.1 t273 t274 true))) else (laws_FnBars.j0 k bt259.1 bt259.2 t263 t266 bt269.1 t273 t274 true))) else (laws_FnBars.j0 k bt259.1 bt259.2 t263 t266 bt269.1 t273 t274 true))) else (laws_FnBars.j0 k bt259.1 bt259.2 t263 t266 bt269.1 t273 t274 true))) else (laws_FnBars.j0 k bt259.1 bt259.2 t263 t266 bt269.1 t273 t274 true))))))))
theorem laws_FnBars.mono_l : ∀ k, (∀ y0 y1 y2 y3 y4 y5 y6 y7, LeO (laws_FnBars.j0 k y0 y1 y2 y3 y4 y5 y6 y7) (laws_FnBars.j0 (k + 1) y0 y1 y2 y3 y4 y5 y6 y7)) ∧ (∀ y0 y1 y2 y3 y4, LeO (laws_FnBars.j1 k y0 y1 y2 y3 y4) (laws_FnBars.j1 (k + 1) y0 y1 y2 y3 y4)) ∧ (∀ y0 y1 y2 y3 y4, LeO (laws_FnBars.j2 k y0 y1 y2 y3 y4) (laws_FnBars.j2 (k + 1) y0 y1 y2 y3 y4)) ∧ (∀ y0 y1 y2 y3 y4 y5, LeO (laws_FnBars.l0 k y0 y1 y2 y3 y4 y5) (laws_FnBars.l0 (k + 1) y0 y1 y2 y3 y4 y5))
  | 0 => ⟨fun _ _ _ _ _ _ _ _ r h => by simp [laws_FnBars.j0] at h, fun _ _ _ _ _ r h => by simp [laws_FnBars.j1] at h, fun _ _ _ _ _ r h => by simp [laws_FnBars.j2] at h, fun _ _ _ _ _ _ r h => by simp [laws_FnBars.l0] at h⟩
  | k + 1 => by
    obtain ⟨ih0, ih1, ih2, ih3⟩ := laws_FnBars.mono_l k
    refine ⟨?_, ?_, ?_, ?_⟩
    · intro y0 y1 y2 y3 y4 y5 y6 y7
      unfold laws_FnBars.j0
      repeat' first
      | (with_reducible exact ih0 _ _ _ _ _ _ _ _)
      | (with_reducible exact ih1 _ _ _ _ _)
      | (with_reducible exact ih2 _ _ _ _ _)
      | (with_reducible exact ih3 _ _ _ _ _ _)
      | (with_reducible exact impl_BarBound.mono _ _ _)
      | (with_reducible exact impl_BarPlanOk.mono _ _ _ _)
      | (with_reducible exact impl_BestBars.mono _ _ _)
      | (with_reducible exact impl_CountBars.mono _ _)
      | (with_reducible exact impl_FewestBars.mono _ _ _)
      | (with_reducible exact impl_FirstFit.mono _ _ _)
      | (with_reducible exact impl_IsTightPlan.mono _ _ _ _)
      | (with_reducible exact impl_LeftOn.mono _ _ _ _)
      | (with_reducible exact impl_LongFirst.mono _ _ _)
      | (with_reducible exact laws_before.mono _ _ _)
      | (with_reducible exact laws_sum.mono _ _)
      | (with_reducible exact spec_MakeBars.mono _ _ _)
      | (with_reducible exact LeO.refl _)
      | (with_reducible exact LeO.none _)
      | (with_reducible refine LeO.ite ?_ ?_)
      | (with_reducible refine LeO.bind ?_ (fun _ => ?_))
      | exact ih0 _ _ _ _ _ _ _ _
      | exact ih1 _ _ _ _ _
      | exact ih2 _ _ _ _ _
      | exact ih3 _ _ _ _ _ _
      | exact impl_BarBound.mono _ _ _
      | exact impl_BarPlanOk.mono _ _ _ _
      | exact impl_BestBars.mono _ _ _
      | exact impl_CountBars.mono _ _
      | exact impl_FewestBars.mono _ _ _
      | exact impl_FirstFit.mono _ _ _
      | exact impl_IsTightPlan.mono _ _ _ _
      | exact impl_LeftOn.mono _ _ _ _
      | exact impl_LongFirst.mono _ _ _
      | exact laws_before.mono _ _ _
      | exact laws_sum.mono _ _
      | exact spec_MakeBars.mono _ _ _
      | exact LeO.none _
      | refine LeO.ite ?_ ?_
      | refine LeO.bind ?_ (fun _ => ?_)
    · intro y0 y1 y2 y3 y4
      unfold laws_FnBars.j1
      repeat' first
      | (with_reducible exact ih0 _ _ _ _ _ _ _ _)
      | (with_reducible exact ih1 _ _ _ _ _)
      | (with_reducible exact ih2 _ _ _ _ _)
      | (with_reducible exact ih3 _ _ _ _ _ _)
      | (with_reducible exact impl_BarBound.mono _ _ _)
      | (with_reducible exact impl_BarPlanOk.mono _ _ _ _)
      | (with_reducible exact impl_BestBars.mono _ _ _)
      | (with_reducible exact impl_CountBars.mono _ _)
      | (with_reducible exact impl_FewestBars.mono _ _ _)
      | (with_reducible exact impl_FirstFit.mono _ _ _)
      | (with_reducible exact impl_IsTightPlan.mono _ _ _ _)
      | (with_reducible exact impl_LeftOn.mono _ _ _ _)
      | (with_reducible exact impl_LongFirst.mono _ _ _)
      | (with_reducible exact laws_before.mono _ _ _)
      | (with_reducible exact laws_sum.mono _ _)
      | (with_reducible exact spec_MakeBars.mono _ _ _)
      | (with_reducible exact LeO.refl _)
      | (with_reducible exact LeO.none _)
      | (with_reducible refine LeO.ite ?_ ?_)
      | (with_reducible refine LeO.bind ?_ (fun _ => ?_))
      | exact ih0 _ _ _ _ _ _ _ _
      | exact ih1 _ _ _ _ _
      | exact ih2 _ _ _ _ _
      | exact ih3 _ _ _ _ _ _
      | exact impl_BarBound.mono _ _ _
      | exact impl_BarPlanOk.mono _ _ _ _
      | exact impl_BestBars.mono _ _ _
      | exact impl_CountBars.mono _ _
      | exact impl_FewestBars.mono _ _ _
      | exact impl_FirstFit.mono _ _ _
      | exact impl_IsTightPlan.mono _ _ _ _
      | exact impl_LeftOn.mono _ _ _ _
      | exact impl_LongFirst.mono _ _ _
      | exact laws_before.mono _ _ _
      | exact laws_sum.mono _ _
      | exact spec_MakeBars.mono _ _ _
      | exact LeO.none _
      | refine LeO.ite ?_ ?_
      | refine LeO.bind ?_ (fun _ => ?_)
    · intro y0 y1 y2 y3 y4
      unfold laws_FnBars.j2
      repeat' first
      | (with_reducible exact ih0 _ _ _ _ _ _ _ _)
      | (with_reducible exact ih1 _ _ _ _ _)
      | (with_reducible exact ih2 _ _ _ _ _)
      | (with_reducible exact ih3 _ _ _ _ _ _)
      | (with_reducible exact impl_BarBound.mono _ _ _)
      | (with_reducible exact impl_BarPlanOk.mono _ _ _ _)
      | (with_reducible exact impl_BestBars.mono _ _ _)
      | (with_reducible exact impl_CountBars.mono _ _)
      | (with_reducible exact impl_FewestBars.mono _ _ _)
      | (with_reducible exact impl_FirstFit.mono _ _ _)
      | (with_reducible exact impl_IsTightPlan.mono _ _ _ _)
      | (with_reducible exact impl_LeftOn.mono _ _ _ _)
      | (with_reducible exact impl_LongFirst.mono _ _ _)
      | (with_reducible exact laws_before.mono _ _ _)
      | (with_reducible exact laws_sum.mono _ _)
      | (with_reducible exact spec_MakeBars.mono _ _ _)
      | (with_reducible exact LeO.refl _)
      | (with_reducible exact LeO.none _)
      | (with_reducible refine LeO.ite ?_ ?_)
      | (with_reducible refine LeO.bind ?_ (fun _ => ?_))
      | exact ih0 _ _ _ _ _ _ _ _
      | exact ih1 _ _ _ _ _
      | exact ih2 _ _ _ _ _
      | exact ih3 _ _ _ _ _ _
      | exact impl_BarBound.mono _ _ _
      | exact impl_BarPlanOk.mono _ _ _ _
      | exact impl_BestBars.mono _ _ _
      | exact impl_CountBars.mono _ _
      | exact impl_FewestBars.mono _ _ _
      | exact impl_FirstFit.mono _ _ _
      | exact impl_IsTightPlan.mono _ _ _ _
      | exact impl_LeftOn.mono _ _ _ _
      | exact impl_LongFirst.mono _ _ _
      | exact laws_before.mono _ _ _
      | exact laws_sum.mono _ _
      | exact spec_MakeBars.mono _ _ _
      | exact LeO.none _
      | refine LeO.ite ?_ ?_
      | refine LeO.bind ?_ (fun _ => ?_)
    · intro y0 y1 y2 y3 y4 y5
      unfold laws_FnBars.l0
      repeat' first
      | (with_reducible exact ih0 _ _ _ _ _ _ _ _)
      | (with_reducible exact ih1 _ _ _ _ _)
      | (with_reducible exact ih2 _ _ _ _ _)
      | (with_reducible exact ih3 _ _ _ _ _ _)
      | (with_reducible exact impl_BarBound.mono _ _ _)
      | (with_reducible exact impl_BarPlanOk.mono _ _ _ _)
      | (with_reducible exact impl_BestBars.mono _ _ _)
      | (with_reducible exact impl_CountBars.mono _ _)
      | (with_reducible exact impl_FewestBars.mono _ _ _)
      | (with_reducible exact impl_FirstFit.mono _ _ _)
      | (with_reducible exact impl_IsTightPlan.mono _ _ _ _)
      | (with_reducible exact impl_LeftOn.mono _ _ _ _)
      | (with_reducible exact impl_LongFirst.mono _ _ _)
      | (with_reducible exact laws_before.mono _ _ _)
      | (with_reducible exact laws_sum.mono _ _)
      | (with_reducible exact spec_MakeBars.mono _ _ _)
      | (with_reducible exact LeO.refl _)
      | (with_reducible exact LeO.none _)
      | (with_reducible refine LeO.ite ?_ ?_)
      | (with_reducible refine LeO.bind ?_ (fun _ => ?_))
      | exact ih0 _ _ _ _ _ _ _ _
      | exact ih1 _ _ _ _ _
      | exact ih2 _ _ _ _ _
      | exact ih3 _ _ _ _ _ _
      | exact impl_BarBound.mono _ _ _
      | exact impl_BarPlanOk.mono _ _ _ _
      | exact impl_BestBars.mono _ _ _
      | exact impl_CountBars.mono _ _
      | exact impl_FewestBars.mono _ _ _
      | exact impl_FirstFit.mono _ _ _
      | exact impl_IsTightPlan.mono _ _ _ _
      | exact impl_LeftOn.mono _ _ _ _
      | exact impl_LongFirst.mono _ _ _
      | exact laws_before.mono _ _ _
      | exact laws_sum.mono _ _
      | exact spec_MakeBars.mono _ _ _
      | exact LeO.none _
      | refine LeO.ite ?_ ?_
      | refine LeO.bind ?_ (fun _ => ?_)
theorem laws_FnBars.mono : ∀ a0 k, LeO (laws_FnBars.f k a0) (laws_FnBars.f (k + 1) a0) := by
  intro a0 k
  obtain ⟨ih0, ih1, ih2, ih3⟩ := laws_FnBars.mono_l k
  unfold laws_FnBars.f
  repeat' first
      | (with_reducible exact ih0 _ _ _ _ _ _ _ _)
      | (with_reducible exact ih1 _ _ _ _ _)
      | (with_reducible exact ih2 _ _ _ _ _)
      | (with_reducible exact ih3 _ _ _ _ _ _)
      | (with_reducible exact impl_BarBound.mono _ _ _)
      | (with_reducible exact impl_BarPlanOk.mono _ _ _ _)
      | (with_reducible exact impl_BestBars.mono _ _ _)
      | (with_reducible exact impl_CountBars.mono _ _)
      | (with_reducible exact impl_FewestBars.mono _ _ _)
      | (with_reducible exact impl_FirstFit.mono _ _ _)
      | (with_reducible exact impl_IsTightPlan.mono _ _ _ _)
      | (with_reducible exact impl_LeftOn.mono _ _ _ _)
      | (with_reducible exact impl_LongFirst.mono _ _ _)
      | (with_reducible exact laws_before.mono _ _ _)
      | (with_reducible exact laws_sum.mono _ _)
      | (with_reducible exact spec_MakeBars.mono _ _ _)
      | (with_reducible exact LeO.refl _)
      | (with_reducible exact LeO.none _)
      | (with_reducible refine LeO.ite ?_ ?_)
      | (with_reducible refine LeO.bind ?_ (fun _ => ?_))
      | exact ih0 _ _ _ _ _ _ _ _
      | exact ih1 _ _ _ _ _
      | exact ih2 _ _ _ _ _
      | exact ih3 _ _ _ _ _ _
      | exact impl_BarBound.mono _ _ _
      | exact impl_BarPlanOk.mono _ _ _ _
      | exact impl_BestBars.mono _ _ _
      | exact impl_CountBars.mono _ _
      | exact impl_FewestBars.mono _ _ _
      | exact impl_FirstFit.mono _ _ _
      | exact impl_IsTightPlan.mono _ _ _ _
      | exact impl_LeftOn.mono _ _ _ _
      | exact impl_LongFirst.mono _ _ _
      | exact laws_before.mono _ _ _
      | exact laws_sum.mono _ _
      | exact spec_MakeBars.mono _ _ _
      | exact LeO.none _
      | refine LeO.ite ?_ ?_
      | refine LeO.bind ?_ (fun _ => ?_)
theorem laws_FnBars.j0_dead {k : Nat} {y0 y1 y2 y3 y4 y5 y6 : _} {r : Bool} (hT : Aside0 (r = true)) (h : laws_FnBars.j0 k y0 y1 y2 y3 y4 y5 y6 true = some r) : False := by
  have hT := hT.out
  subst hT
  cases k with
  | zero => simp [laws_FnBars.j0] at h
  | succ k => simp [laws_FnBars.j0] at h
theorem laws_FnBars.j1_dead {k : Nat} {y0 y1 y2 y3 : _} {r : Bool} (hT : Aside0 (r = true)) (h : laws_FnBars.j1 k y0 y1 y2 y3 true = some r) : False := by
  have hT := hT.out
  subst hT
  cases k with
  | zero => simp [laws_FnBars.j1] at h
  | succ k => simp [laws_FnBars.j1] at h
theorem laws_FnBars.j2_dead {k : Nat} {y0 y1 y2 y3 : _} {r : Bool} (hT : Aside0 (r = true)) (h : laws_FnBars.j2 k y0 y1 y2 y3 true = some r) : False := by
  have hT := hT.out
  subst hT
  cases k with
  | zero => simp [laws_FnBars.j2] at h
  | succ k => simp [laws_FnBars.j2] at h
theorem laws_FnBars.no_false {r : Bool} (hT : Aside0 (r = true)) (h : some false = some r) : False := by
  have hT := hT.out
  subst hT
  simp at h
set_option maxHeartbeats 8000000 in
set_option maxRecDepth 100000 in
theorem laws_FnBars.calls (k : Nat) (A0 : Option Addr) (c0 : Nat) (l0 : List Int) (r : Bool) (w : World) (hr0 : Kd.C (Kd.int .u8) w A0 l0.length l0) (hc0 : l0.length ≤ c0) (h : laws_FnBars.f k l0 = some r) (hT_ : r = true) :
    Calls Try.prog 5 #[.slice A0 l0.length c0] w fun e w' => e = .returned (.bool r) ∧ Below w.heap.size w w' := by
  have HT := Aside0.mk hT_
  clear hT_
  have HR0 := Aside0.mk hr0
  have HC0 := Aside0.mk hc0
  clear hr0 hc0
  have HB := Aside0.mk (Below.refl w.heap.size w)
  have H : (if (l0.length : Int) > 1048576 then (some true) else ((spec_MakeBars.f k l0 0).bind fun bt259 => ((impl_FirstFit.f k bt259.1 bt259.2).bind fun t263 => ((impl_LongFirst.f k bt259.1 bt259.2).bind fun t266 => ((impl_BestBars.f k bt259.1 bt259.2).bind fun bt269 => ((impl_FewestBars.f k bt259.1 bt259.2).bind fun t273 => ((impl_BarBound.f k bt259.1 bt259.2).bind fun t274 => (if bt269.2 = true then ((impl_BarsOk.f bt259.1 bt259.2).bind fun t275 => (if t275 = true then ((impl_BarPlanOk.f k bt259.1 bt259.2 t263).bind fun t276 => (if t276 = true then ((impl_BarPlanOk.f k bt259.1 bt259.2 t266).bind fun t277 => (if t277 = true then ((impl_BarPlanOk.f k bt259.1 bt259.2 bt269.1).bind fun t278 => (if t278 = true then ((impl_CountBars.f k bt269.1).bind fun t279 => (if t279 = t273 then (if t273 < t274 then (laws_FnBars.j0 k bt259.1 bt259.2 t263 t266 bt269.1 t273 t274 true) else ((impl_CountBars.f k t263).bind fun t280 => (if t280 < t273 then (laws_FnBars.j0 k bt259.1 bt259.2 t263 t266 bt269.1 t273 t274 true) else ((impl_CountBars.f k t266).bind fun t281 => (if t281 < t273 then (laws_FnBars.j0 k bt259.1 bt259.2 t263 t266 bt269.1 t273 t274 true) else ((laws_before.f k t263 bt269.1).bind fun t282 => (if t282 = true then ((impl_CountBars.f k t263).bind fun t283 => (if t283 = t273 then (laws_FnBars.j0 k bt259.1 bt259.2 t263 t266 bt269.1 t273 t274 true) else ((impl_IsTightPlan.f k bt259.1 bt259.2 t263).bind fun t284 => (laws_FnBars.j0 k bt259.1 bt259.2 t263 t266 bt269.1 t273 t274 (!t284))))) else ((impl_IsTightPlan.f k bt259.1 bt259.2 t263).bind fun t285 => (laws_FnBars.j0 k bt259.1 bt259.2 t263 t266 bt269.1 t273 t274 (!t285)))))))))) else (laws_FnBars.j0 k bt259.1 bt259.2 t263 t266 bt269.1 t273 t274 true))) else (laws_FnBars.j0 k bt259.1 bt259.2 t263 t266 bt269.1 t273 t274 true))) else (laws_FnBars.j0 k bt259.1 bt259.2 t263 t266 bt269.1 t273 t274 true))) else (laws_FnBars.j0 k bt259.1 bt259.2 t263 t266 bt269.1 t273 t274 true))) else (laws_FnBars.j0 k bt259.1 bt259.2 t263 t266 bt269.1 t273 t274 true))) else (laws_FnBars.j0 k bt259.1 bt259.2 t263 t266 bt269.1 t273 t274 true))))))))) = some r := h
  clear h
  by_cases c2 : (l0.length : Int) > 1048576
  · rw [if_pos c2] at H
    have c2b0 : decide (1048576 < (l0.length : Int)) = true := decide_eq_true c2
    have c2b1 : decide (1048576 < l0.length) = true := decide_eq_true (by omega)
    clear c2
    obtain rfl := Option.some.inj H
    go_enter Try.func5, Try.ntmps5
    go_wp2
    go_ret
    exact ⟨by first | rfl | (simp [errW_none, errW_some] <;> rfl) | (simp [*, errW_none, errW_some] <;> rfl), by repeat (first | (with_reducible first | exact HB.out | apply below_alloc | apply pw_below_drewN | apply below_drew1) | exact HB.out)⟩
  · rw [if_neg c2] at H
    have c2b0 : decide (1048576 < (l0.length : Int)) = false := decide_eq_false c2
    have c2b1 : decide (1048576 < l0.length) = false := decide_eq_false (by omega)
    clear c2
    replace H := Option.bind_eq_some_iff.mp H
    obtain ⟨⟨t259, t260⟩, A30, H⟩ := H
    replace H : ((impl_FirstFit.f k t259 t260).bind fun t263 => ((impl_LongFirst.f k t259 t260).bind fun t266 => ((impl_BestBars.f k t259 t260).bind fun bt269 => ((impl_FewestBars.f k t259 t260).bind fun t273 => ((impl_BarBound.f k t259 t260).bind fun t274 => (if bt269.2 = true then ((impl_BarsOk.f t259 t260).bind fun t275 => (if t275 = true then ((impl_BarPlanOk.f k t259 t260 t263).bind fun t276 => (if t276 = true then ((impl_BarPlanOk.f k t259 t260 t266).bind fun t277 => (if t277 = true then ((impl_BarPlanOk.f k t259 t260 bt269.1).bind fun t278 => (if t278 = true then ((impl_CountBars.f k bt269.1).bind fun t279 => (if t279 = t273 then (if t273 < t274 then (laws_FnBars.j0 k t259 t260 t263 t266 bt269.1 t273 t274 true) else ((impl_CountBars.f k t263).bind fun t280 => (if t280 < t273 then (laws_FnBars.j0 k t259 t260 t263 t266 bt269.1 t273 t274 true) else ((impl_CountBars.f k t266).bind fun t281 => (if t281 < t273 then (laws_FnBars.j0 k t259 t260 t263 t266 bt269.1 t273 t274 true) else ((laws_before.f k t263 bt269.1).bind fun t282 => (if t282 = true then ((impl_CountBars.f k t263).bind fun t283 => (if t283 = t273 then (laws_FnBars.j0 k t259 t260 t263 t266 bt269.1 t273 t274 true) else ((impl_IsTightPlan.f k t259 t260 t263).bind fun t284 => (laws_FnBars.j0 k t259 t260 t263 t266 bt269.1 t273 t274 (!t284))))) else ((impl_IsTightPlan.f k t259 t260 t263).bind fun t285 => (laws_FnBars.j0 k t259 t260 t263 t266 bt269.1 t273 t274 (!t285)))))))))) else (laws_FnBars.j0 k t259 t260 t263 t266 bt269.1 t273 t274 true))) else (laws_FnBars.j0 k t259 t260 t263 t266 bt269.1 t273 t274 true))) else (laws_FnBars.j0 k t259 t260 t263 t266 bt269.1 t273 t274 true))) else (laws_FnBars.j0 k t259 t260 t263 t266 bt269.1 t273 t274 true))) else (laws_FnBars.j0 k t259 t260 t263 t266 bt269.1 t273 t274 true))) else (laws_FnBars.j0 k t259 t260 t263 t266 bt269.1 t273 t274 true))))))) = some r := H
    have A3 := Aside0.mk A30
    clear A30
    replace H := Option.bind_eq_some_iff.mp H
    obtain ⟨t263, A40, H⟩ := H
    replace H : ((impl_LongFirst.f k t259 t260).bind fun t266 => ((impl_BestBars.f k t259 t260).bind fun bt269 => ((impl_FewestBars.f k t259 t260).bind fun t273 => ((impl_BarBound.f k t259 t260).bind fun t274 => (if bt269.2 = true then ((impl_BarsOk.f t259 t260).bind fun t275 => (if t275 = true then ((impl_BarPlanOk.f k t259 t260 t263).bind fun t276 => (if t276 = true then ((impl_BarPlanOk.f k t259 t260 t266).bind fun t277 => (if t277 = true then ((impl_BarPlanOk.f k t259 t260 bt269.1).bind fun t278 => (if t278 = true then ((impl_CountBars.f k bt269.1).bind fun t279 => (if t279 = t273 then (if t273 < t274 then (laws_FnBars.j0 k t259 t260 t263 t266 bt269.1 t273 t274 true) else ((impl_CountBars.f k t263).bind fun t280 => (if t280 < t273 then (laws_FnBars.j0 k t259 t260 t263 t266 bt269.1 t273 t274 true) else ((impl_CountBars.f k t266).bind fun t281 => (if t281 < t273 then (laws_FnBars.j0 k t259 t260 t263 t266 bt269.1 t273 t274 true) else ((laws_before.f k t263 bt269.1).bind fun t282 => (if t282 = true then ((impl_CountBars.f k t263).bind fun t283 => (if t283 = t273 then (laws_FnBars.j0 k t259 t260 t263 t266 bt269.1 t273 t274 true) else ((impl_IsTightPlan.f k t259 t260 t263).bind fun t284 => (laws_FnBars.j0 k t259 t260 t263 t266 bt269.1 t273 t274 (!t284))))) else ((impl_IsTightPlan.f k t259 t260 t263).bind fun t285 => (laws_FnBars.j0 k t259 t260 t263 t266 bt269.1 t273 t274 (!t285)))))))))) else (laws_FnBars.j0 k t259 t260 t263 t266 bt269.1 t273 t274 true))) else (laws_FnBars.j0 k t259 t260 t263 t266 bt269.1 t273 t274 true))) else (laws_FnBars.j0 k t259 t260 t263 t266 bt269.1 t273 t274 true))) else (laws_FnBars.j0 k t259 t260 t263 t266 bt269.1 t273 t274 true))) else (laws_FnBars.j0 k t259 t260 t263 t266 bt269.1 t273 t274 true))) else (laws_FnBars.j0 k t259 t260 t263 t266 bt269.1 t273 t274 true)))))) = some r := H
    have A4 := Aside0.mk A40
    clear A40
    replace H := Option.bind_eq_some_iff.mp H
    obtain ⟨t266, A50, H⟩ := H
    replace H : ((impl_BestBars.f k t259 t260).bind fun bt269 => ((impl_FewestBars.f k t259 t260).bind fun t273 => ((impl_BarBound.f k t259 t260).bind fun t274 => (if bt269.2 = true then ((impl_BarsOk.f t259 t260).bind fun t275 => (if t275 = true then ((impl_BarPlanOk.f k t259 t260 t263).bind fun t276 => (if t276 = true then ((impl_BarPlanOk.f k t259 t260 t266).bind fun t277 => (if t277 = true then ((impl_BarPlanOk.f k t259 t260 bt269.1).bind fun t278 => (if t278 = true then ((impl_CountBars.f k bt269.1).bind fun t279 => (if t279 = t273 then (if t273 < t274 then (laws_FnBars.j0 k t259 t260 t263 t266 bt269.1 t273 t274 true) else ((impl_CountBars.f k t263).bind fun t280 => (if t280 < t273 then (laws_FnBars.j0 k t259 t260 t263 t266 bt269.1 t273 t274 true) else ((impl_CountBars.f k t266).bind fun t281 => (if t281 < t273 then (laws_FnBars.j0 k t259 t260 t263 t266 bt269.1 t273 t274 true) else ((laws_before.f k t263 bt269.1).bind fun t282 => (if t282 = true then ((impl_CountBars.f k t263).bind fun t283 => (if t283 = t273 then (laws_FnBars.j0 k t259 t260 t263 t266 bt269.1 t273 t274 true) else ((impl_IsTightPlan.f k t259 t260 t263).bind fun t284 => (laws_FnBars.j0 k t259 t260 t263 t266 bt269.1 t273 t274 (!t284))))) else ((impl_IsTightPlan.f k t259 t260 t263).bind fun t285 => (laws_FnBars.j0 k t259 t260 t263 t266 bt269.1 t273 t274 (!t285)))))))))) else (laws_FnBars.j0 k t259 t260 t263 t266 bt269.1 t273 t274 true))) else (laws_FnBars.j0 k t259 t260 t263 t266 bt269.1 t273 t274 true))) else (laws_FnBars.j0 k t259 t260 t263 t266 bt269.1 t273 t274 true))) else (laws_FnBars.j0 k t259 t260 t263 t266 bt269.1 t273 t274 true))) else (laws_FnBars.j0 k t259 t260 t263 t266 bt269.1 t273 t274 true))) else (laws_FnBars.j0 k t259 t260 t263 t266 bt269.1 t273 t274 true))))) = some r := H
    have A5 := Aside0.mk A50
    clear A50
    replace H := Option.bind_eq_some_iff.mp H
    obtain ⟨⟨t269, t270⟩, A60, H⟩ := H
    replace H : ((impl_FewestBars.f k t259 t260).bind fun t273 => ((impl_BarBound.f k t259 t260).bind fun t274 => (if t270 = true then ((impl_BarsOk.f t259 t260).bind fun t275 => (if t275 = true then ((impl_BarPlanOk.f k t259 t260 t263).bind fun t276 => (if t276 = true then ((impl_BarPlanOk.f k t259 t260 t266).bind fun t277 => (if t277 = true then ((impl_BarPlanOk.f k t259 t260 t269).bind fun t278 => (if t278 = true then ((impl_CountBars.f k t269).bind fun t279 => (if t279 = t273 then (if t273 < t274 then (laws_FnBars.j0 k t259 t260 t263 t266 t269 t273 t274 true) else ((impl_CountBars.f k t263).bind fun t280 => (if t280 < t273 then (laws_FnBars.j0 k t259 t260 t263 t266 t269 t273 t274 true) else ((impl_CountBars.f k t266).bind fun t281 => (if t281 < t273 then (laws_FnBars.j0 k t259 t260 t263 t266 t269 t273 t274 true) else ((laws_before.f k t263 t269).bind fun t282 => (if t282 = true then ((impl_CountBars.f k t263).bind fun t283 => (if t283 = t273 then (laws_FnBars.j0 k t259 t260 t263 t266 t269 t273 t274 true) else ((impl_IsTightPlan.f k t259 t260 t263).bind fun t284 => (laws_FnBars.j0 k t259 t260 t263 t266 t269 t273 t274 (!t284))))) else ((impl_IsTightPlan.f k t259 t260 t263).bind fun t285 => (laws_FnBars.j0 k t259 t260 t263 t266 t269 t273 t274 (!t285)))))))))) else (laws_FnBars.j0 k t259 t260 t263 t266 t269 t273 t274 true))) else (laws_FnBars.j0 k t259 t260 t263 t266 t269 t273 t274 true))) else (laws_FnBars.j0 k t259 t260 t263 t266 t269 t273 t274 true))) else (laws_FnBars.j0 k t259 t260 t263 t266 t269 t273 t274 true))) else (laws_FnBars.j0 k t259 t260 t263 t266 t269 t273 t274 true))) else (laws_FnBars.j0 k t259 t260 t263 t266 t269 t273 t274 true)))) = some r := H
    have A6 := Aside0.mk A60
    clear A60
    replace H := Option.bind_eq_some_iff.mp H
    obtain ⟨t273, A70, H⟩ := H
    replace H : ((impl_BarBound.f k t259 t260).bind fun t274 => (if t270 = true then ((impl_BarsOk.f t259 t260).bind fun t275 => (if t275 = true then ((impl_BarPlanOk.f k t259 t260 t263).bind fun t276 => (if t276 = true then ((impl_BarPlanOk.f k t259 t260 t266).bind fun t277 => (if t277 = true then ((impl_BarPlanOk.f k t259 t260 t269).bind fun t278 => (if t278 = true then ((impl_CountBars.f k t269).bind fun t279 => (if t279 = t273 then (if t273 < t274 then (laws_FnBars.j0 k t259 t260 t263 t266 t269 t273 t274 true) else ((impl_CountBars.f k t263).bind fun t280 => (if t280 < t273 then (laws_FnBars.j0 k t259 t260 t263 t266 t269 t273 t274 true) else ((impl_CountBars.f k t266).bind fun t281 => (if t281 < t273 then (laws_FnBars.j0 k t259 t260 t263 t266 t269 t273 t274 true) else ((laws_before.f k t263 t269).bind fun t282 => (if t282 = true then ((impl_CountBars.f k t263).bind fun t283 => (if t283 = t273 then (laws_FnBars.j0 k t259 t260 t263 t266 t269 t273 t274 true) else ((impl_IsTightPlan.f k t259 t260 t263).bind fun t284 => (laws_FnBars.j0 k t259 t260 t263 t266 t269 t273 t274 (!t284))))) else ((impl_IsTightPlan.f k t259 t260 t263).bind fun t285 => (laws_FnBars.j0 k t259 t260 t263 t266 t269 t273 t274 (!t285)))))))))) else (laws_FnBars.j0 k t259 t260 t263 t266 t269 t273 t274 true))) else (laws_FnBars.j0 k t259 t260 t263 t266 t269 t273 t274 true))) else (laws_FnBars.j0 k t259 t260 t263 t266 t269 t273 t274 true))) else (laws_FnBars.j0 k t259 t260 t263 t266 t269 t273 t274 true))) else (laws_FnBars.j0 k t259 t260 t263 t266 t269 t273 t274 true))) else (laws_FnBars.j0 k t259 t260 t263 t266 t269 t273 t274 true))) = some r := H
    have A7 := Aside0.mk A70
    clear A70
    replace H := Option.bind_eq_some_iff.mp H
    obtain ⟨t274, A80, H⟩ := H
    replace H : (if t270 = true then ((impl_BarsOk.f t259 t260).bind fun t275 => (if t275 = true then ((impl_BarPlanOk.f k t259 t260 t263).bind fun t276 => (if t276 = true then ((impl_BarPlanOk.f k t259 t260 t266).bind fun t277 => (if t277 = true then ((impl_BarPlanOk.f k t259 t260 t269).bind fun t278 => (if t278 = true then ((impl_CountBars.f k t269).bind fun t279 => (if t279 = t273 then (if t273 < t274 then (laws_FnBars.j0 k t259 t260 t263 t266 t269 t273 t274 true) else ((impl_CountBars.f k t263).bind fun t280 => (if t280 < t273 then (laws_FnBars.j0 k t259 t260 t263 t266 t269 t273 t274 true) else ((impl_CountBars.f k t266).bind fun t281 => (if t281 < t273 then (laws_FnBars.j0 k t259 t260 t263 t266 t269 t273 t274 true) else ((laws_before.f k t263 t269).bind fun t282 => (if t282 = true then ((impl_CountBars.f k t263).bind fun t283 => (if t283 = t273 then (laws_FnBars.j0 k t259 t260 t263 t266 t269 t273 t274 true) else ((impl_IsTightPlan.f k t259 t260 t263).bind fun t284 => (laws_FnBars.j0 k t259 t260 t263 t266 t269 t273 t274 (!t284))))) else ((impl_IsTightPlan.f k t259 t260 t263).bind fun t285 => (laws_FnBars.j0 k t259 t260 t263 t266 t269 t273 t274 (!t285)))))))))) else (laws_FnBars.j0 k t259 t260 t263 t266 t269 t273 t274 true))) else (laws_FnBars.j0 k t259 t260 t263 t266 t269 t273 t274 true))) else (laws_FnBars.j0 k t259 t260 t263 t266 t269 t273 t274 true))) else (laws_FnBars.j0 k t259 t260 t263 t266 t269 t273 t274 true))) else (laws_FnBars.j0 k t259 t260 t263 t266 t269 t273 t274 true))) else (laws_FnBars.j0 k t259 t260 t263 t266 t269 t273 t274 true)) = some r := H
    have A8 := Aside0.mk A80
    clear A80
    have HC9 := Aside0.mk H
    clear H
    go_enter Try.func5, Try.ntmps5
    go_upto_region 9 with (first | ((with_reducible refine gate_callee (f := 27) rfl ?_); refine goesL_ (some 19) rfl rfl Try.func27 (by kernel_rfl) rfl #[.slice A0 l0.length c0, .int .i64 0] rfl (by (try simp only [List.map_toArray, List.map_cons, List.map_nil]); first | done | rfl | (simp only [List.length_drop, List.length_take]; rfl)) ?_; (with_reducible refine (spec_MakeBars.calls k _ _ l0 0 t259 t260 _ ?side1 ?side2 A3.out).mono ?_); (case side1 => repeat (first | exact HR0.out | (with_reducible refine Kd.C_alloc ?_ _) | (with_reducible refine Kd.C_drewN ?_ _) | (with_reducible refine Kd.C_drew ?_))); (case side2 => exact HC0.out); rintro e w10 ⟨v261, rfl, ho0, hb⟩; refine ⟨_, rfl, ?_⟩; have n0_ := Aside0.mk (Kd.R_lower ho0 (below_size (by repeat (first | (with_reducible first | exact HB.out | apply below_alloc | apply pw_below_drewN | apply below_drew1) | exact HB.out)))); have n1_ := Aside0.mk (below_step (by repeat (first | (with_reducible first | exact HB.out | apply below_alloc | apply pw_below_drewN | apply below_drew1) | exact HB.out)) hb); clear HB; have HO262 := n0_; have HB := n1_; clear n0_ n1_; (try clear hb); (try clear hb2); (try clear hk); (try clear hi); (try clear ho0); obtain ⟨Ao11, co11, eo11⟩ := Kd.R_slice HO262.out; subst eo11) | ((with_reducible refine gate_callee (f := 28) rfl ?_); refine goesL_ (some 24) rfl rfl Try.func28 (by kernel_rfl) rfl #[.int .i64 t259, .slice Ao11 t260.length co11] rfl (by (try simp only [List.map_toArray, List.map_cons, List.map_nil]); first | done | rfl | (simp only [List.length_drop, List.length_take]; rfl)) ?_; (with_reducible refine (impl_FirstFit.calls k t259 _ _ t260 t263 _ ?side1 ?side2 A4.out).mono ?_); (case side1 => repeat (first | exact (Kd.R_reads' HO262.out).2.2 | (with_reducible refine Kd.C_alloc ?_ _) | (with_reducible refine Kd.C_drewN ?_ _) | (with_reducible refine Kd.C_drew ?_))); (case side2 => exact (Kd.R_reads' HO262.out).2.1); rintro e w12 ⟨v264, rfl, ho0, hb⟩; refine ⟨_, rfl, ?_⟩; have n0_ := Aside0.mk (Kd.R_elder' (by (with_reducible repeat (first | apply Kd.R_alloc | apply Kd.R_drewN | apply Kd.R_drew)); exact HO262.out) (Kd.R_base ho0) hb); have n1_ := Aside0.mk (Kd.R_lower (Kd.R_new' ho0 (Kd.R_lt (by (with_reducible repeat (first | apply Kd.R_alloc | apply Kd.R_drewN | apply Kd.R_drew)); exact HO262.out))) (below_size (by repeat (first | (with_reducible first | exact HB.out | apply below_alloc | apply pw_below_drewN | apply below_drew1) | exact HB.out)))); have n2_ := Aside0.mk (below_step (by repeat (first | (with_reducible first | exact HB.out | apply below_alloc | apply pw_below_drewN | apply below_drew1) | exact HB.out)) hb); clear HO262; clear HB; have HO262 := n0_; have HO265 := n1_; have HB := n2_; clear n0_ n1_ n2_; (try clear hb); (try clear hb2); (try clear hk); (try clear hi); (try clear ho0)) | ((with_reducible refine gate_callee (f := 29) rfl ?_); refine goesL_ (some 27) rfl rfl Try.func29 (by kernel_rfl) rfl #[.int .i64 t259, .slice Ao11 t260.length co11] rfl (by (try simp only [List.map_toArray, List.map_cons, List.map_nil]); first | done | rfl | (simp only [List.length_drop, List.length_take]; rfl)) ?_; (with_reducible refine (impl_LongFirst.calls k t259 _ _ t260 t266 _ ?side1 ?side2 A5.out).mono ?_); (case side1 => repeat (first | exact (Kd.R_reads' HO262.out).2.2 | (with_reducible refine Kd.C_alloc ?_ _) | (with_reducible refine Kd.C_drewN ?_ _) | (with_reducible refine Kd.C_drew ?_))); (case side2 => exact (Kd.R_reads' HO262.out).2.1); rintro e w13 ⟨v267, rfl, ho0, hb⟩; refine ⟨_, rfl, ?_⟩; have n0_ := Aside0.mk (Kd.R_elder' (by (with_reducible repeat (first | apply Kd.R_alloc | apply Kd.R_drewN | apply Kd.R_drew)); exact HO262.out) (Kd.R_base ho0) hb); have n1_ := Aside0.mk (Kd.R_elder' (by (with_reducible repeat (first | apply Kd.R_alloc | apply Kd.R_drewN | apply Kd.R_drew)); exact HO265.out) (Kd.R_base ho0) hb); have n2_ := Aside0.mk (Kd.R_lower (Kd.R_new' (Kd.R_new' ho0 (Kd.R_lt (by (with_reducible repeat (first | apply Kd.R_alloc | apply Kd.R_drewN | apply Kd.R_drew)); exact HO262.out))) (Kd.R_lt (by (with_reducible repeat (first | apply Kd.R_alloc | apply Kd.R_drewN | apply Kd.R_drew)); exact HO265.out))) (below_size (by repeat (first | (with_reducible first | exact HB.out | apply below_alloc | apply pw_below_drewN | apply below_drew1) | exact HB.out)))); have n3_ := Aside0.mk (below_step (by repeat (first | (with_reducible first | exact HB.out | apply below_alloc | apply pw_below_drewN | apply below_drew1) | exact HB.out)) hb); clear HO262; clear HO265; clear HB; have HO262 := n0_; have HO265 := n1_; have HO268 := n2_; have HB := n3_; clear n0_ n1_ n2_ n3_; (try clear hb); (try clear hb2); (try clear hk); (try clear hi); (try clear ho0)) | ((with_reducible refine gate_callee (f := 30) rfl ?_); refine goesL_ (some 31) rfl rfl Try.func30 (by kernel_rfl) rfl #[.int .i64 t259, .slice Ao11 t260.length co11] rfl (by (try simp only [List.map_toArray, List.map_cons, List.map_nil]); first | done | rfl | (simp only [List.length_drop, List.length_take]; rfl)) ?_; (with_reducible refine (impl_BestBars.calls k t259 _ _ t260 t269 t270 _ ?side1 ?side2 A6.out).mono ?_); (case side1 => repeat (first | exact (Kd.R_reads' HO262.out).2.2 | (with_reducible refine Kd.C_alloc ?_ _) | (with_reducible refine Kd.C_drewN ?_ _) | (with_reducible refine Kd.C_drew ?_))); (case side2 => exact (Kd.R_reads' HO262.out).2.1); rintro e w14 ⟨v271, rfl, ho0, hb⟩; refine ⟨_, rfl, ?_⟩; have n0_ := Aside0.mk (Kd.R_elder' (by (with_reducible repeat (first | apply Kd.R_alloc | apply Kd.R_drewN | apply Kd.R_drew)); exact HO262.out) (Kd.R_base ho0) hb); have n1_ := Aside0.mk (Kd.R_elder' (by (with_reducible repeat (first | apply Kd.R_alloc | apply Kd.R_drewN | apply Kd.R_drew)); exact HO265.out) (Kd.R_base ho0) hb); have n2_ := Aside0.mk (Kd.R_elder' (by (with_reducible repeat (first | apply Kd.R_alloc | apply Kd.R_drewN | apply Kd.R_drew)); exact HO268.out) (Kd.R_base ho0) hb); have n3_ := Aside0.mk (Kd.R_lower (Kd.R_new' (Kd.R_new' (Kd.R_new' ho0 (Kd.R_lt (by (with_reducible repeat (first | apply Kd.R_alloc | apply Kd.R_drewN | apply Kd.R_drew)); exact HO262.out))) (Kd.R_lt (by (with_reducible repeat (first | apply Kd.R_alloc | apply Kd.R_drewN | apply Kd.R_drew)); exact HO265.out))) (Kd.R_lt (by (with_reducible repeat (first | apply Kd.R_alloc | apply Kd.R_drewN | apply Kd.R_drew)); exact HO268.out))) (below_size (by repeat (first | (with_reducible first | exact HB.out | apply below_alloc | apply pw_below_drewN | apply below_drew1) | exact HB.out)))); have n4_ := Aside0.mk (below_step (by repeat (first | (with_reducible first | exact HB.out | apply below_alloc | apply pw_below_drewN | apply below_drew1) | exact HB.out)) hb); clear HO262; clear HO265; clear HO268; clear HB; have HO262 := n0_; have HO265 := n1_; have HO268 := n2_; have HO272 := n3_; have HB := n4_; clear n0_ n1_ n2_ n3_ n4_; (try clear hb); (try clear hb2); (try clear hk); (try clear hi); (try clear ho0)) | ((with_reducible refine gate_callee (f := 31) rfl ?_); refine goesL_ (some 36) rfl rfl Try.func31 (by kernel_rfl) rfl #[.int .i64 t259, .slice Ao11 t260.length co11] rfl (by (try simp only [List.map_toArray, List.map_cons, List.map_nil]); first | done | rfl | (simp only [List.length_drop, List.length_take]; rfl)) ?_; (with_reducible refine (impl_FewestBars.calls k t259 _ _ t260 t273 _ ?side1 ?side2 A7.out).mono ?_); (case side1 => repeat (first | exact (Kd.R_reads' HO262.out).2.2 | (with_reducible refine Kd.C_alloc ?_ _) | (with_reducible refine Kd.C_drewN ?_ _) | (with_reducible refine Kd.C_drew ?_))); (case side2 => exact (Kd.R_reads' HO262.out).2.1); rintro e w15 ⟨rfl, hb⟩; refine ⟨_, rfl, ?_⟩; have n0_ := Aside0.mk (Kd.R_below (by (with_reducible repeat (first | apply Kd.R_alloc | apply Kd.R_drewN | apply Kd.R_drew)); exact HO262.out) hb); have n1_ := Aside0.mk (Kd.R_below (by (with_reducible repeat (first | apply Kd.R_alloc | apply Kd.R_drewN | apply Kd.R_drew)); exact HO265.out) hb); have n2_ := Aside0.mk (Kd.R_below (by (with_reducible repeat (first | apply Kd.R_alloc | apply Kd.R_drewN | apply Kd.R_drew)); exact HO268.out) hb); have n3_ := Aside0.mk (Kd.R_below (by (with_reducible repeat (first | apply Kd.R_alloc | apply Kd.R_drewN | apply Kd.R_drew)); exact HO272.out) hb); have n4_ := Aside0.mk (below_step (by repeat (first | (with_reducible first | exact HB.out | apply below_alloc | apply pw_below_drewN | apply below_drew1) | exact HB.out)) hb); clear HO262; clear HO265; clear HO268; clear HO272; clear HB; have HO262 := n0_; have HO265 := n1_; have HO268 := n2_; have HO272 := n3_; have HB := n4_; clear n0_ n1_ n2_ n3_ n4_; (try clear hb); (try clear hb2); (try clear hk); (try clear hi)) | ((with_reducible refine gate_callee (f := 32) rfl ?_); refine goesL_ (some 39) rfl rfl Try.func32 (by kernel_rfl) rfl #[.int .i64 t259, .slice Ao11 t260.length co11] rfl (by (try simp only [List.map_toArray, List.map_cons, List.map_nil]); first | done | rfl | (simp only [List.length_drop, List.length_take]; rfl)) ?_; (with_reducible refine (impl_BarBound.calls k t259 _ _ t260 t274 _ ?side1 ?side2 A8.out).mono ?_); (case side1 => repeat (first | exact (Kd.R_reads' HO262.out).2.2 | (with_reducible refine Kd.C_alloc ?_ _) | (with_reducible refine Kd.C_drewN ?_ _) | (with_reducible refine Kd.C_drew ?_))); (case side2 => exact (Kd.R_reads' HO262.out).2.1); rintro e w16 ⟨rfl, hb⟩; refine ⟨_, rfl, ?_⟩; have n0_ := Aside0.mk (Kd.R_below (by (with_reducible repeat (first | apply Kd.R_alloc | apply Kd.R_drewN | apply Kd.R_drew)); exact HO262.out) hb); have n1_ := Aside0.mk (Kd.R_below (by (with_reducible repeat (first | apply Kd.R_alloc | apply Kd.R_drewN | apply Kd.R_drew)); exact HO265.out) hb); have n2_ := Aside0.mk (Kd.R_below (by (with_reducible repeat (first | apply Kd.R_alloc | apply Kd.R_drewN | apply Kd.R_drew)); exact HO268.out) hb); have n3_ := Aside0.mk (Kd.R_below (by (with_reducible repeat (first | apply Kd.R_alloc | apply Kd.R_drewN | apply Kd.R_drew)); exact HO272.out) hb); have n4_ := Aside0.mk (below_step (by repeat (first | (with_reducible first | exact HB.out | apply below_alloc | apply pw_below_drewN | apply below_drew1) | exact HB.out)) hb); clear HO262; clear HO265; clear HO268; clear HO272; clear HB; have HO262 := n0_; have HO265 := n1_; have HO268 := n2_; have HO272 := n3_; have HB := n4_; clear n0_ n1_ n2_ n3_ n4_; (try clear hb); (try clear hb2); (try clear hk); (try clear hi)))
    (try simp only [Act.put, List.setIfInBounds_toArray, List.set_cons_zero, List.set_cons_succ])
    go_cut [109] (fun v109 wc => ∃ (kq : Nat) (x109_8 : Bool), v109 = .bool x109_8 ∧ Aside0 (laws_FnBars.j0 kq t259 t260 t263 t266 t269 t273 t274 x109_8 = some r) ∧ Aside0 (kq ≤ k) ∧ Aside0 (Kd.R (Kd.int .i64) 3 wc w.heap.size (fun k_ => some k_ ≠ (v264 : Value).ownBlock ∧ some k_ ≠ (v267 : Value).ownBlock ∧ some k_ ≠ (v271 : Value).ownBlock) (.slice Ao11 t260.length co11) t260) ∧ Aside0 (Kd.R (Kd.int .i64) 3 wc w.heap.size (fun k_ => some k_ ≠ ((.slice Ao11 t260.length co11) : Value).ownBlock ∧ some k_ ≠ (v267 : Value).ownBlock ∧ some k_ ≠ (v271 : Value).ownBlock) v264 t263) ∧ Aside0 (Kd.R (Kd.int .i64) 3 wc w.heap.size (fun k_ => some k_ ≠ ((.slice Ao11 t260.length co11) : Value).ownBlock ∧ some k_ ≠ (v264 : Value).ownBlock ∧ some k_ ≠ (v271 : Value).ownBlock) v267 t266) ∧ Aside0 (Kd.R (Kd.int .i64) 3 wc w.heap.size (fun k_ => some k_ ≠ ((.slice Ao11 t260.length co11) : Value).ownBlock ∧ some k_ ≠ (v264 : Value).ownBlock ∧ some k_ ≠ (v267 : Value).ownBlock) v271 t269) ∧ Aside0 (Below w.heap.size w wc))
    case first =>
      have H := HC9.out
      clear HC9
      by_cases c17 : t270 = true
      · subst c17
        have H1 : ((impl_BarsOk.f t259 t260).bind fun t275 => (if t275 = true then ((impl_BarPlanOk.f k t259 t260 t263).bind fun t276 => (if t276 = true then ((impl_BarPlanOk.f k t259 t260 t266).bind fun t277 => (if t277 = true then ((impl_BarPlanOk.f k t259 t260 t269).bind fun t278 => (if t278 = true then ((impl_CountBars.f k t269).bind fun t279 => (if t279 = t273 then (if t273 < t274 then (laws_FnBars.j0 k t259 t260 t263 t266 t269 t273 t274 true) else ((impl_CountBars.f k t263).bind fun t280 => (if t280 < t273 then (laws_FnBars.j0 k t259 t260 t263 t266 t269 t273 t274 true) else ((impl_CountBars.f k t266).bind fun t281 => (if t281 < t273 then (laws_FnBars.j0 k t259 t260 t263 t266 t269 t273 t274 true) else ((laws_before.f k t263 t269).bind fun t282 => (if t282 = true then ((impl_CountBars.f k t263).bind fun t283 => (if t283 = t273 then (laws_FnBars.j0 k t259 t260 t263 t266 t269 t273 t274 true) else ((impl_IsTightPlan.f k t259 t260 t263).bind fun t284 => (laws_FnBars.j0 k t259 t260 t263 t266 t269 t273 t274 (!t284))))) else ((impl_IsTightPlan.f k t259 t260 t263).bind fun t285 => (laws_FnBars.j0 k t259 t260 t263 t266 t269 t273 t274 (!t285)))))))))) else (laws_FnBars.j0 k t259 t260 t263 t266 t269 t273 t274 true))) else (laws_FnBars.j0 k t259 t260 t263 t266 t269 t273 t274 true))) else (laws_FnBars.j0 k t259 t260 t263 t266 t269 t273 t274 true))) else (laws_FnBars.j0 k t259 t260 t263 t266 t269 t273 t274 true))) else (laws_FnBars.j0 k t259 t260 t263 t266 t269 t273 t274 true))) = some r := by rw [if_pos rfl] at H; exact H
        clear H
        have H := H1
        clear H1
        replace H := Option.bind_eq_some_iff.mp H
        obtain ⟨t275, A180, H⟩ := H
        replace H : (if t275 = true then ((impl_BarPlanOk.f k t259 t260 t263).bind fun t276 => (if t276 = true then ((impl_BarPlanOk.f k t259 t260 t266).bind fun t277 => (if t277 = true then ((impl_BarPlanOk.f k t259 t260 t269).bind fun t278 => (if t278 = true then ((impl_CountBars.f k t269).bind fun t279 => (if t279 = t273 then (if t273 < t274 then (laws_FnBars.j0 k t259 t260 t263 t266 t269 t273 t274 true) else ((impl_CountBars.f k t263).bind fun t280 => (if t280 < t273 then (laws_FnBars.j0 k t259 t260 t263 t266 t269 t273 t274 true) else ((impl_CountBars.f k t266).bind fun t281 => (if t281 < t273 then (laws_FnBars.j0 k t259 t260 t263 t266 t269 t273 t274 true) else ((laws_before.f k t263 t269).bind fun t282 => (if t282 = true then ((impl_CountBars.f k t263).bind fun t283 => (if t283 = t273 then (laws_FnBars.j0 k t259 t260 t263 t266 t269 t273 t274 true) else ((impl_IsTightPlan.f k t259 t260 t263).bind fun t284 => (laws_FnBars.j0 k t259 t260 t263 t266 t269 t273 t274 (!t284))))) else ((impl_IsTightPlan.f k t259 t260 t263).bind fun t285 => (laws_FnBars.j0 k t259 t260 t263 t266 t269 t273 t274 (!t285)))))))))) else (laws_FnBars.j0 k t259 t260 t263 t266 t269 t273 t274 true))) else (laws_FnBars.j0 k t259 t260 t263 t266 t269 t273 t274 true))) else (laws_FnBars.j0 k t259 t260 t263 t266 t269 t273 t274 true))) else (laws_FnBars.j0 k t259 t260 t263 t266 t269 t273 t274 true))) else (laws_FnBars.j0 k t259 t260 t263 t266 t269 t273 t274 true)) = some r := H
        have A18 := Aside0.mk A180
        clear A180
        by_cases c19 : t275 = true
        · subst c19
          have H1 : ((impl_BarPlanOk.f k t259 t260 t263).bind fun t276 => (if t276 = true then ((impl_BarPlanOk.f k t259 t260 t266).bind fun t277 => (if t277 = true then ((impl_BarPlanOk.f k t259 t260 t269).bind fun t278 => (if t278 = true then ((impl_CountBars.f k t269).bind fun t279 => (if t279 = t273 then (if t273 < t274 then (laws_FnBars.j0 k t259 t260 t263 t266 t269 t273 t274 true) else ((impl_CountBars.f k t263).bind fun t280 => (if t280 < t273 then (laws_FnBars.j0 k t259 t260 t263 t266 t269 t273 t274 true) else ((impl_CountBars.f k t266).bind fun t281 => (if t281 < t273 then (laws_FnBars.j0 k t259 t260 t263 t266 t269 t273 t274 true) else ((laws_before.f k t263 t269).bind fun t282 => (if t282 = true then ((impl_CountBars.f k t263).bind fun t283 => (if t283 = t273 then (laws_FnBars.j0 k t259 t260 t263 t266 t269 t273 t274 true) else ((impl_IsTightPlan.f k t259 t260 t263).bind fun t284 => (laws_FnBars.j0 k t259 t260 t263 t266 t269 t273 t274 (!t284))))) else ((impl_IsTightPlan.f k t259 t260 t263).bind fun t285 => (laws_FnBars.j0 k t259 t260 t263 t266 t269 t273 t274 (!t285)))))))))) else (laws_FnBars.j0 k t259 t260 t263 t266 t269 t273 t274 true))) else (laws_FnBars.j0 k t259 t260 t263 t266 t269 t273 t274 true))) else (laws_FnBars.j0 k t259 t260 t263 t266 t269 t273 t274 true))) else (laws_FnBars.j0 k t259 t260 t263 t266 t269 t273 t274 true))) = some r := by rw [if_pos rfl] at H; exact H
          clear H
          have H := H1
          clear H1
          replace H := Option.bind_eq_some_iff.mp H
          obtain ⟨t276, A200, H⟩ := H
          replace H : (if t276 = true then ((impl_BarPlanOk.f k t259 t260 t266).bind fun t277 => (if t277 = true then ((impl_BarPlanOk.f k t259 t260 t269).bind fun t278 => (if t278 = true then ((impl_CountBars.f k t269).bind fun t279 => (if t279 = t273 then (if t273 < t274 then (laws_FnBars.j0 k t259 t260 t263 t266 t269 t273 t274 true) else ((impl_CountBars.f k t263).bind fun t280 => (if t280 < t273 then (laws_FnBars.j0 k t259 t260 t263 t266 t269 t273 t274 true) else ((impl_CountBars.f k t266).bind fun t281 => (if t281 < t273 then (laws_FnBars.j0 k t259 t260 t263 t266 t269 t273 t274 true) else ((laws_before.f k t263 t269).bind fun t282 => (if t282 = true then ((impl_CountBars.f k t263).bind fun t283 => (if t283 = t273 then (laws_FnBars.j0 k t259 t260 t263 t266 t269 t273 t274 true) else ((impl_IsTightPlan.f k t259 t260 t263).bind fun t284 => (laws_FnBars.j0 k t259 t260 t263 t266 t269 t273 t274 (!t284))))) else ((impl_IsTightPlan.f k t259 t260 t263).bind fun t285 => (laws_FnBars.j0 k t259 t260 t263 t266 t269 t273 t274 (!t285)))))))))) else (laws_FnBars.j0 k t259 t260 t263 t266 t269 t273 t274 true))) else (laws_FnBars.j0 k t259 t260 t263 t266 t269 t273 t274 true))) else (laws_FnBars.j0 k t259 t260 t263 t266 t269 t273 t274 true))) else (laws_FnBars.j0 k t259 t260 t263 t266 t269 t273 t274 true)) = some r := H
          have A20 := Aside0.mk A200
          clear A200
          by_cases c21 : t276 = true
          · subst c21
            have H1 : ((impl_BarPlanOk.f k t259 t260 t266).bind fun t277 => (if t277 = true then ((impl_BarPlanOk.f k t259 t260 t269).bind fun t278 => (if t278 = true then ((impl_CountBars.f k t269).bind fun t279 => (if t279 = t273 then (if t273 < t274 then (laws_FnBars.j0 k t259 t260 t263 t266 t269 t273 t274 true) else ((impl_CountBars.f k t263).bind fun t280 => (if t280 < t273 then (laws_FnBars.j0 k t259 t260 t263 t266 t269 t273 t274 true) else ((impl_CountBars.f k t266).bind fun t281 => (if t281 < t273 then (laws_FnBars.j0 k t259 t260 t263 t266 t269 t273 t274 true) else ((laws_before.f k t263 t269).bind fun t282 => (if t282 = true then ((impl_CountBars.f k t263).bind fun t283 => (if t283 = t273 then (laws_FnBars.j0 k t259 t260 t263 t266 t269 t273 t274 true) else ((impl_IsTightPlan.f k t259 t260 t263).bind fun t284 => (laws_FnBars.j0 k t259 t260 t263 t266 t269 t273 t274 (!t284))))) else ((impl_IsTightPlan.f k t259 t260 t263).bind fun t285 => (laws_FnBars.j0 k t259 t260 t263 t266 t269 t273 t274 (!t285)))))))))) else (laws_FnBars.j0 k t259 t260 t263 t266 t269 t273 t274 true))) else (laws_FnBars.j0 k t259 t260 t263 t266 t269 t273 t274 true))) else (laws_FnBars.j0 k t259 t260 t263 t266 t269 t273 t274 true))) = some r := by rw [if_pos rfl] at H; exact H
            clear H
            have H := H1
            clear H1
            replace H := Option.bind_eq_some_iff.mp H
            obtain ⟨t277, A220, H⟩ := H
            replace H : (if t277 = true then ((impl_BarPlanOk.f k t259 t260 t269).bind fun t278 => (if t278 = true then ((impl_CountBars.f k t269).bind fun t279 => (if t279 = t273 then (if t273 < t274 then (laws_FnBars.j0 k t259 t260 t263 t266 t269 t273 t274 true) else ((impl_CountBars.f k t263).bind fun t280 => (if t280 < t273 then (laws_FnBars.j0 k t259 t260 t263 t266 t269 t273 t274 true) else ((impl_CountBars.f k t266).bind fun t281 => (if t281 < t273 then (laws_FnBars.j0 k t259 t260 t263 t266 t269 t273 t274 true) else ((laws_before.f k t263 t269).bind fun t282 => (if t282 = true then ((impl_CountBars.f k t263).bind fun t283 => (if t283 = t273 then (laws_FnBars.j0 k t259 t260 t263 t266 t269 t273 t274 true) else ((impl_IsTightPlan.f k t259 t260 t263).bind fun t284 => (laws_FnBars.j0 k t259 t260 t263 t266 t269 t273 t274 (!t284))))) else ((impl_IsTightPlan.f k t259 t260 t263).bind fun t285 => (laws_FnBars.j0 k t259 t260 t263 t266 t269 t273 t274 (!t285)))))))))) else (laws_FnBars.j0 k t259 t260 t263 t266 t269 t273 t274 true))) else (laws_FnBars.j0 k t259 t260 t263 t266 t269 t273 t274 true))) else (laws_FnBars.j0 k t259 t260 t263 t266 t269 t273 t274 true)) = some r := H
            have A22 := Aside0.mk A220
            clear A220
            by_cases c23 : t277 = true
            · subst c23
              have H1 : ((impl_BarPlanOk.f k t259 t260 t269).bind fun t278 => (if t278 = true then ((impl_CountBars.f k t269).bind fun t279 => (if t279 = t273 then (if t273 < t274 then (laws_FnBars.j0 k t259 t260 t263 t266 t269 t273 t274 true) else ((impl_CountBars.f k t263).bind fun t280 => (if t280 < t273 then (laws_FnBars.j0 k t259 t260 t263 t266 t269 t273 t274 true) else ((impl_CountBars.f k t266).bind fun t281 => (if t281 < t273 then (laws_FnBars.j0 k t259 t260 t263 t266 t269 t273 t274 true) else ((laws_before.f k t263 t269).bind fun t282 => (if t282 = true then ((impl_CountBars.f k t263).bind fun t283 => (if t283 = t273 then (laws_FnBars.j0 k t259 t260 t263 t266 t269 t273 t274 true) else ((impl_IsTightPlan.f k t259 t260 t263).bind fun t284 => (laws_FnBars.j0 k t259 t260 t263 t266 t269 t273 t274 (!t284))))) else ((impl_IsTightPlan.f k t259 t260 t263).bind fun t285 => (laws_FnBars.j0 k t259 t260 t263 t266 t269 t273 t274 (!t285)))))))))) else (laws_FnBars.j0 k t259 t260 t263 t266 t269 t273 t274 true))) else (laws_FnBars.j0 k t259 t260 t263 t266 t269 t273 t274 true))) = some r := by rw [if_pos rfl] at H; exact H
              clear H
              have H := H1
              clear H1
              replace H := Option.bind_eq_some_iff.mp H
              obtain ⟨t278, A240, H⟩ := H
              replace H : (if t278 = true then ((impl_CountBars.f k t269).bind fun t279 => (if t279 = t273 then (if t273 < t274 then (laws_FnBars.j0 k t259 t260 t263 t266 t269 t273 t274 true) else ((impl_CountBars.f k t263).bind fun t280 => (if t280 < t273 then (laws_FnBars.j0 k t259 t260 t263 t266 t269 t273 t274 true) else ((impl_CountBars.f k t266).bind fun t281 => (if t281 < t273 then (laws_FnBars.j0 k t259 t260 t263 t266 t269 t273 t274 true) else ((laws_before.f k t263 t269).bind fun t282 => (if t282 = true then ((impl_CountBars.f k t263).bind fun t283 => (if t283 = t273 then (laws_FnBars.j0 k t259 t260 t263 t266 t269 t273 t274 true) else ((impl_IsTightPlan.f k t259 t260 t263).bind fun t284 => (laws_FnBars.j0 k t259 t260 t263 t266 t269 t273 t274 (!t284))))) else ((impl_IsTightPlan.f k t259 t260 t263).bind fun t285 => (laws_FnBars.j0 k t259 t260 t263 t266 t269 t273 t274 (!t285)))))))))) else (laws_FnBars.j0 k t259 t260 t263 t266 t269 t273 t274 true))) else (laws_FnBars.j0 k t259 t260 t263 t266 t269 t273 t274 true)) = some r := H
              have A24 := Aside0.mk A240
              clear A240
              by_cases c25 : t278 = true
              · subst c25
                have H1 : ((impl_CountBars.f k t269).bind fun t279 => (if t279 = t273 then (if t273 < t274 then (laws_FnBars.j0 k t259 t260 t263 t266 t269 t273 t274 true) else ((impl_CountBars.f k t263).bind fun t280 => (if t280 < t273 then (laws_FnBars.j0 k t259 t260 t263 t266 t269 t273 t274 true) else ((impl_CountBars.f k t266).bind fun t281 => (if t281 < t273 then (laws_FnBars.j0 k t259 t260 t263 t266 t269 t273 t274 true) else ((laws_before.f k t263 t269).bind fun t282 => (if t282 = true then ((impl_CountBars.f k t263).bind fun t283 => (if t283 = t273 then (laws_FnBars.j0 k t259 t260 t263 t266 t269 t273 t274 true) else ((impl_IsTightPlan.f k t259 t260 t263).bind fun t284 => (laws_FnBars.j0 k t259 t260 t263 t266 t269 t273 t274 (!t284))))) else ((impl_IsTightPlan.f k t259 t260 t263).bind fun t285 => (laws_FnBars.j0 k t259 t260 t263 t266 t269 t273 t274 (!t285)))))))))) else (laws_FnBars.j0 k t259 t260 t263 t266 t269 t273 t274 true))) = some r := by rw [if_pos rfl] at H; exact H
                clear H
                have H := H1
                clear H1
                replace H := Option.bind_eq_some_iff.mp H
                obtain ⟨t279, A260, H⟩ := H
                replace H : (if t279 = t273 then (if t273 < t274 then (laws_FnBars.j0 k t259 t260 t263 t266 t269 t273 t274 true) else ((impl_CountBars.f k t263).bind fun t280 => (if t280 < t273 then (laws_FnBars.j0 k t259 t260 t263 t266 t269 t273 t274 true) else ((impl_CountBars.f k t266).bind fun t281 => (if t281 < t273 then (laws_FnBars.j0 k t259 t260 t263 t266 t269 t273 t274 true) else ((laws_before.f k t263 t269).bind fun t282 => (if t282 = true then ((impl_CountBars.f k t263).bind fun t283 => (if t283 = t273 then (laws_FnBars.j0 k t259 t260 t263 t266 t269 t273 t274 true) else ((impl_IsTightPlan.f k t259 t260 t263).bind fun t284 => (laws_FnBars.j0 k t259 t260 t263 t266 t269 t273 t274 (!t284))))) else ((impl_IsTightPlan.f k t259 t260 t263).bind fun t285 => (laws_FnBars.j0 k t259 t260 t263 t266 t269 t273 t274 (!t285)))))))))) else (laws_FnBars.j0 k t259 t260 t263 t266 t269 t273 t274 true)) = some r := H
                have A26 := Aside0.mk A260
                clear A260
                by_cases c27 : t279 = t273
                · rw [if_pos c27] at H
                  have c27b0 : (t279 == t273) = true := beq_iff_eq.mpr c27
                  have c27b1 : (t279 != t273) = false := bne_eq_false_iff_eq.mpr c27
                  clear c27
                  (first | rw [c27b0] | (simp only [i64_w, i32_w]; rw [c27b0]) | skip)
                  by_cases c28 : t273 < t274
                  · rw [if_pos c28] at H
                    exact (laws_FnBars.j0_dead HT H).elim
                  · rw [if_neg c28] at H
                    have c28b0 : decide (t273 < t274) = false := decide_eq_false c28
                    clear c28
                    replace H := Option.bind_eq_some_iff.mp H
                    obtain ⟨t280, A370, H⟩ := H
                    replace H : (if t280 < t273 then (laws_FnBars.j0 k t259 t260 t263 t266 t269 t273 t274 true) else ((impl_CountBars.f k t266).bind fun t281 => (if t281 < t273 then (laws_FnBars.j0 k t259 t260 t263 t266 t269 t273 t274 true) else ((laws_before.f k t263 t269).bind fun t282 => (if t282 = true then ((impl_CountBars.f k t263).bind fun t283 => (if t283 = t273 then (laws_FnBars.j0 k t259 t260 t263 t266 t269 t273 t274 true) else ((impl_IsTightPlan.f k t259 t260 t263).bind fun t284 => (laws_FnBars.j0 k t259 t260 t263 t266 t269 t273 t274 (!t284))))) else ((impl_IsTightPlan.f k t259 t260 t263).bind fun t285 => (laws_FnBars.j0 k t259 t260 t263 t266 t269 t273 t274 (!t285)))))))) = some r := H
                    have A37 := Aside0.mk A370
                    clear A370
                    by_cases c38 : t280 < t273
                    · rw [if_pos c38] at H
                      exact (laws_FnBars.j0_dead HT H).elim
                    · rw [if_neg c38] at H
                      have c38b0 : decide (t280 < t273) = false := decide_eq_false c38
                      clear c38
                      replace H := Option.bind_eq_some_iff.mp H
                      obtain ⟨t281, A480, H⟩ := H
                      replace H : (if t281 < t273 then (laws_FnBars.j0 k t259 t260 t263 t266 t269 t273 t274 true) else ((laws_before.f k t263 t269).bind fun t282 => (if t282 = true then ((impl_CountBars.f k t263).bind fun t283 => (if t283 = t273 then (laws_FnBars.j0 k t259 t260 t263 t266 t269 t273 t274 true) else ((impl_IsTightPlan.f k t259 t260 t263).bind fun t284 => (laws_FnBars.j0 k t259 t260 t263 t266 t269 t273 t274 (!t284))))) else ((impl_IsTightPlan.f k t259 t260 t263).bind fun t285 => (laws_FnBars.j0 k t259 t260 t263 t266 t269 t273 t274 (!t285)))))) = some r := H
                      have A48 := Aside0.mk A480
                      clear A480
                      by_cases c49 : t281 < t273
                      · rw [if_pos c49] at H
                        exact (laws_FnBars.j0_dead HT H).elim
                      · rw [if_neg c49] at H
                        have c49b0 : decide (t281 < t273) = false := decide_eq_false c49
                        clear c49
                        replace H := Option.bind_eq_some_iff.mp H
                        obtain ⟨t282, A600, H⟩ := H
                        replace H : (if t282 = true then ((impl_CountBars.f k t263).bind fun t283 => (if t283 = t273 then (laws_FnBars.j0 k t259 t260 t263 t266 t269 t273 t274 true) else ((impl_IsTightPlan.f k t259 t260 t263).bind fun t284 => (laws_FnBars.j0 k t259 t260 t263 t266 t269 t273 t274 (!t284))))) else ((impl_IsTightPlan.f k t259 t260 t263).bind fun t285 => (laws_FnBars.j0 k t259 t260 t263 t266 t269 t273 t274 (!t285)))) = some r := H
                        have A60 := Aside0.mk A600
                        clear A600
                        by_cases c61 : t282 = true
                        · subst c61
                          have H1 : ((impl_CountBars.f k t263).bind fun t283 => (if t283 = t273 then (laws_FnBars.j0 k t259 t260 t263 t266 t269 t273 t274 true) else ((impl_IsTightPlan.f k t259 t260 t263).bind fun t284 => (laws_FnBars.j0 k t259 t260 t263 t266 t269 t273 t274 (!t284))))) = some r := by rw [if_pos rfl] at H; exact H
                          clear H
                          have H := H1
                          clear H1
                          replace H := Option.bind_eq_some_iff.mp H
                          obtain ⟨t283, A620, H⟩ := H
                          replace H : (if t283 = t273 then (laws_FnBars.j0 k t259 t260 t263 t266 t269 t273 t274 true) else ((impl_IsTightPlan.f k t259 t260 t263).bind fun t284 => (laws_FnBars.j0 k t259 t260 t263 t266 t269 t273 t274 (!t284)))) = some r := H
                          have A62 := Aside0.mk A620
                          clear A620
                          obtain rfl : t280 = t283 := Option.some.inj (A37.out.symm.trans A62.out)
                          by_cases c63 : t280 = t273
                          · rw [if_pos c63] at H
                            exact (laws_FnBars.j0_dead HT H).elim
                          · rw [if_neg c63] at H
                            have c63b0 : (t280 == t273) = false := beq_eq_false_iff_ne.mpr c63
                            have c63b1 : (t280 != t273) = true := bne_iff_ne.mpr c63
                            replace H := Option.bind_eq_some_iff.mp H
                            obtain ⟨t284, A750, H⟩ := H
                            replace H : (laws_FnBars.j0 k t259 t260 t263 t266 t269 t273 t274 (!t284)) = some r := H
                            have A75 := Aside0.mk A750
                            clear A750
                            have H' := Aside0.mk H
                            clear H
                            go_wp2_with (first | (go_at_call 33; (with_reducible refine (impl_BarsOk.calls t259 _ _ t260 true _ ?side1 ?side2 A18.out).mono ?_); (case side1 => repeat (first | exact (Kd.R_reads' HO262.out).2.2 | (with_reducible refine Kd.C_alloc ?_ _) | (with_reducible refine Kd.C_drewN ?_ _) | (with_reducible refine Kd.C_drew ?_))); (case side2 => exact (Kd.R_reads' HO262.out).2.1); rintro e w76 ⟨rfl, hb⟩; have n0_ := Aside0.mk (Kd.R_below (by (with_reducible repeat (first | apply Kd.R_alloc | apply Kd.R_drewN | apply Kd.R_drew)); exact HO262.out) hb); have n1_ := Aside0.mk (Kd.R_below (by (with_reducible repeat (first | apply Kd.R_alloc | apply Kd.R_drewN | apply Kd.R_drew)); exact HO265.out) hb); have n2_ := Aside0.mk (Kd.R_below (by (with_reducible repeat (first | apply Kd.R_alloc | apply Kd.R_drewN | apply Kd.R_drew)); exact HO268.out) hb); have n3_ := Aside0.mk (Kd.R_below (by (with_reducible repeat (first | apply Kd.R_alloc | apply Kd.R_drewN | apply Kd.R_drew)); exact HO272.out) hb); have n4_ := Aside0.mk (below_step (by repeat (first | (with_reducible first | exact HB.out | apply below_alloc | apply pw_below_drewN | apply below_drew1) | exact HB.out)) hb); clear HO262; clear HO265; clear HO268; clear HO272; clear HB; have HO262 := n0_; have HO265 := n1_; have HO268 := n2_; have HO272 := n3_; have HB := n4_; clear n0_ n1_ n2_ n3_ n4_; (try clear hb); (try clear hb2); (try clear hk); (try clear hi); obtain ⟨Ao77, co77, eo77⟩ := Kd.R_slice HO265.out; subst eo77) | (go_at_call 34; (with_reducible refine (impl_BarPlanOk.calls k t259 _ _ t260 _ _ t263 true _ ?side1 ?side2 ?side3 ?side4 A20.out).mono ?_); (case side1 => repeat (first | exact (Kd.R_reads' HO262.out).2.2 | (with_reducible refine Kd.C_alloc ?_ _) | (with_reducible refine Kd.C_drewN ?_ _) | (with_reducible refine Kd.C_drew ?_))); (case side2 => exact (Kd.R_reads' HO262.out).2.1); (case side3 => repeat (first | exact (Kd.R_reads' HO265.out).2.2 | (with_reducible refine Kd.C_alloc ?_ _) | (with_reducible refine Kd.C_drewN ?_ _) | (with_reducible refine Kd.C_drew ?_))); (case side4 => exact (Kd.R_reads' HO265.out).2.1); rintro e w78 ⟨rfl, hb⟩; have n0_ := Aside0.mk (Kd.R_below (by (with_reducible repeat (first | apply Kd.R_alloc | apply Kd.R_drewN | apply Kd.R_drew)); exact HO262.out) hb); have n1_ := Aside0.mk (Kd.R_below (by (with_reducible repeat (first | apply Kd.R_alloc | apply Kd.R_drewN | apply Kd.R_drew)); exact HO265.out) hb); have n2_ := Aside0.mk (Kd.R_below (by (with_reducible repeat (first | apply Kd.R_alloc | apply Kd.R_drewN | apply Kd.R_drew)); exact HO268.out) hb); have n3_ := Aside0.mk (Kd.R_below (by (with_reducible repeat (first | apply Kd.R_alloc | apply Kd.R_drewN | apply Kd.R_drew)); exact HO272.out) hb); have n4_ := Aside0.mk (below_step (by repeat (first | (with_reducible first | exact HB.out | apply below_alloc | apply pw_below_drewN | apply below_drew1) | exact HB.out)) hb); clear HO262; clear HO265; clear HO268; clear HO272; clear HB; have HO262 := n0_; have HO265 := n1_; have HO268 := n2_; have HO272 := n3_; have HB := n4_; clear n0_ n1_ n2_ n3_ n4_; (try clear hb); (try clear hb2); (try clear hk); (try clear hi); obtain ⟨Ao79, co79, eo79⟩ := Kd.R_slice HO268.out; subst eo79) | (go_at_call 34; (with_reducible refine (impl_BarPlanOk.calls k t259 _ _ t260 _ _ t266 true _ ?side1 ?side2 ?side3 ?side4 A22.out).mono ?_); (case side1 => repeat (first | exact (Kd.R_reads' HO262.out).2.2 | (with_reducible refine Kd.C_alloc ?_ _) | (with_reducible refine Kd.C_drewN ?_ _) | (with_reducible refine Kd.C_drew ?_))); (case side2 => exact (Kd.R_reads' HO262.out).2.1); (case side3 => repeat (first | exact (Kd.R_reads' HO268.out).2.2 | (with_reducible refine Kd.C_alloc ?_ _) | (with_reducible refine Kd.C_drewN ?_ _) | (with_reducible refine Kd.C_drew ?_))); (case side4 => exact (Kd.R_reads' HO268.out).2.1); rintro e w80 ⟨rfl, hb⟩; have n0_ := Aside0.mk (Kd.R_below (by (with_reducible repeat (first | apply Kd.R_alloc | apply Kd.R_drewN | apply Kd.R_drew)); exact HO262.out) hb); have n1_ := Aside0.mk (Kd.R_below (by (with_reducible repeat (first | apply Kd.R_alloc | apply Kd.R_drewN | apply Kd.R_drew)); exact HO265.out) hb); have n2_ := Aside0.mk (Kd.R_below (by (with_reducible repeat (first | apply Kd.R_alloc | apply Kd.R_drewN | apply Kd.R_drew)); exact HO268.out) hb); have n3_ := Aside0.mk (Kd.R_below (by (with_reducible repeat (first | apply Kd.R_alloc | apply Kd.R_drewN | apply Kd.R_drew)); exact HO272.out) hb); have n4_ := Aside0.mk (below_step (by repeat (first | (with_reducible first | exact HB.out | apply below_alloc | apply pw_below_drewN | apply below_drew1) | exact HB.out)) hb); clear HO262; clear HO265; clear HO268; clear HO272; clear HB; have HO262 := n0_; have HO265 := n1_; have HO268 := n2_; have HO272 := n3_; have HB := n4_; clear n0_ n1_ n2_ n3_ n4_; (try clear hb); (try clear hb2); (try clear hk); (try clear hi); obtain ⟨Ao81, co81, eo81⟩ := Kd.R_slice HO272.out; subst eo81) | (go_at_call 34; (with_reducible refine (impl_BarPlanOk.calls k t259 _ _ t260 _ _ t269 true _ ?side1 ?side2 ?side3 ?side4 A24.out).mono ?_); (case side1 => repeat (first | exact (Kd.R_reads' HO262.out).2.2 | (with_reducible refine Kd.C_alloc ?_ _) | (with_reducible refine Kd.C_drewN ?_ _) | (with_reducible refine Kd.C_drew ?_))); (case side2 => exact (Kd.R_reads' HO262.out).2.1); (case side3 => repeat (first | exact (Kd.R_reads' HO272.out).2.2 | (with_reducible refine Kd.C_alloc ?_ _) | (with_reducible refine Kd.C_drewN ?_ _) | (with_reducible refine Kd.C_drew ?_))); (case side4 => exact (Kd.R_reads' HO272.out).2.1); rintro e w82 ⟨rfl, hb⟩; have n0_ := Aside0.mk (Kd.R_below (by (with_reducible repeat (first | apply Kd.R_alloc | apply Kd.R_drewN | apply Kd.R_drew)); exact HO262.out) hb); have n1_ := Aside0.mk (Kd.R_below (by (with_reducible repeat (first | apply Kd.R_alloc | apply Kd.R_drewN | apply Kd.R_drew)); exact HO265.out) hb); have n2_ := Aside0.mk (Kd.R_below (by (with_reducible repeat (first | apply Kd.R_alloc | apply Kd.R_drewN | apply Kd.R_drew)); exact HO268.out) hb); have n3_ := Aside0.mk (Kd.R_below (by (with_reducible repeat (first | apply Kd.R_alloc | apply Kd.R_drewN | apply Kd.R_drew)); exact HO272.out) hb); have n4_ := Aside0.mk (below_step (by repeat (first | (with_reducible first | exact HB.out | apply below_alloc | apply pw_below_drewN | apply below_drew1) | exact HB.out)) hb); clear HO262; clear HO265; clear HO268; clear HO272; clear HB; have HO262 := n0_; have HO265 := n1_; have HO268 := n2_; have HO272 := n3_; have HB := n4_; clear n0_ n1_ n2_ n3_ n4_; (try clear hb); (try clear hb2); (try clear hk); (try clear hi)) | (go_at_call 35; (with_reducible refine (impl_CountBars.calls k _ _ t269 t279 _ ?side1 ?side2 A26.out).mono ?_); (case side1 => repeat (first | exact (Kd.R_reads' HO272.out).2.2 | (with_reducible refine Kd.C_alloc ?_ _) | (with_reducible refine Kd.C_drewN ?_ _) | (with_reducible refine Kd.C_drew ?_))); (case side2 => exact (Kd.R_reads' HO272.out).2.1); rintro e w83 ⟨rfl, hb⟩; have n0_ := Aside0.mk (Kd.R_below (by (with_reducible repeat (first | apply Kd.R_alloc | apply Kd.R_drewN | apply Kd.R_drew)); exact HO262.out) hb); have n1_ := Aside0.mk (Kd.R_below (by (with_reducible repeat (first | apply Kd.R_alloc | apply Kd.R_drewN | apply Kd.R_drew)); exact HO265.out) hb); have n2_ := Aside0.mk (Kd.R_below (by (with_reducible repeat (first | apply Kd.R_alloc | apply Kd.R_drewN | apply Kd.R_drew)); exact HO268.out) hb); have n3_ := Aside0.mk (Kd.R_below (by (with_reducible repeat (first | apply Kd.R_alloc | apply Kd.R_drewN | apply Kd.R_drew)); exact HO272.out) hb); have n4_ := Aside0.mk (below_step (by repeat (first | (with_reducible first | exact HB.out | apply below_alloc | apply pw_below_drewN | apply below_drew1) | exact HB.out)) hb); clear HO262; clear HO265; clear HO268; clear HO272; clear HB; have HO262 := n0_; have HO265 := n1_; have HO268 := n2_; have HO272 := n3_; have HB := n4_; clear n0_ n1_ n2_ n3_ n4_; (try clear hb); (try clear hb2); (try clear hk); (try clear hi)) | (go_at_call 35; (with_reducible refine (impl_CountBars.calls k _ _ t263 t280 _ ?side1 ?side2 A37.out).mono ?_); (case side1 => repeat (first | exact (Kd.R_reads' HO265.out).2.2 | (with_reducible refine Kd.C_alloc ?_ _) | (with_reducible refine Kd.C_drewN ?_ _) | (with_reducible refine Kd.C_drew ?_))); (case side2 => exact (Kd.R_reads' HO265.out).2.1); rintro e w84 ⟨rfl, hb⟩; have n0_ := Aside0.mk (Kd.R_below (by (with_reducible repeat (first | apply Kd.R_alloc | apply Kd.R_drewN | apply Kd.R_drew)); exact HO262.out) hb); have n1_ := Aside0.mk (Kd.R_below (by (with_reducible repeat (first | apply Kd.R_alloc | apply Kd.R_drewN | apply Kd.R_drew)); exact HO265.out) hb); have n2_ := Aside0.mk (Kd.R_below (by (with_reducible repeat (first | apply Kd.R_alloc | apply Kd.R_drewN | apply Kd.R_drew)); exact HO268.out) hb); have n3_ := Aside0.mk (Kd.R_below (by (with_reducible repeat (first | apply Kd.R_alloc | apply Kd.R_drewN | apply Kd.R_drew)); exact HO272.out) hb); have n4_ := Aside0.mk (below_step (by repeat (first | (with_reducible first | exact HB.out | apply below_alloc | apply pw_below_drewN | apply below_drew1) | exact HB.out)) hb); clear HO262; clear HO265; clear HO268; clear HO272; clear HB; have HO262 := n0_; have HO265 := n1_; have HO268 := n2_; have HO272 := n3_; have HB := n4_; clear n0_ n1_ n2_ n3_ n4_; (try clear hb); (try clear hb2); (try clear hk); (try clear hi)) | (go_at_call 35; (with_reducible refine (impl_CountBars.calls k _ _ t266 t281 _ ?side1 ?side2 A48.out).mono ?_); (case side1 => repeat (first | exact (Kd.R_reads' HO268.out).2.2 | (with_reducible refine Kd.C_alloc ?_ _) | (with_reducible refine Kd.C_drewN ?_ _) | (with_reducible refine Kd.C_drew ?_))); (case side2 => exact (Kd.R_reads' HO268.out).2.1); rintro e w85 ⟨rfl, hb⟩; have n0_ := Aside0.mk (Kd.R_below (by (with_reducible repeat (first | apply Kd.R_alloc | apply Kd.R_drewN | apply Kd.R_drew)); exact HO262.out) hb); have n1_ := Aside0.mk (Kd.R_below (by (with_reducible repeat (first | apply Kd.R_alloc | apply Kd.R_drewN | apply Kd.R_drew)); exact HO265.out) hb); have n2_ := Aside0.mk (Kd.R_below (by (with_reducible repeat (first | apply Kd.R_alloc | apply Kd.R_drewN | apply Kd.R_drew)); exact HO268.out) hb); have n3_ := Aside0.mk (Kd.R_below (by (with_reducible repeat (first | apply Kd.R_alloc | apply Kd.R_drewN | apply Kd.R_drew)); exact HO272.out) hb); have n4_ := Aside0.mk (below_step (by repeat (first | (with_reducible first | exact HB.out | apply below_alloc | apply pw_below_drewN | apply below_drew1) | exact HB.out)) hb); clear HO262; clear HO265; clear HO268; clear HO272; clear HB; have HO262 := n0_; have HO265 := n1_; have HO268 := n2_; have HO272 := n3_; have HB := n4_; clear n0_ n1_ n2_ n3_ n4_; (try clear hb); (try clear hb2); (try clear hk); (try clear hi)) | (go_at_call 36; (with_reducible refine (laws_before.calls k _ _ t263 _ _ t269 true _ ?side1 ?side2 ?side3 ?side4 A60.out).mono ?_); (case side1 => repeat (first | exact (Kd.R_reads' HO265.out).2.2 | (with_reducible refine Kd.C_alloc ?_ _) | (with_reducible refine Kd.C_drewN ?_ _) | (with_reducible refine Kd.C_drew ?_))); (case side2 => exact (Kd.R_reads' HO265.out).2.1); (case side3 => repeat (first | exact (Kd.R_reads' HO272.out).2.2 | (with_reducible refine Kd.C_alloc ?_ _) | (with_reducible refine Kd.C_drewN ?_ _) | (with_reducible refine Kd.C_drew ?_))); (case side4 => exact (Kd.R_reads' HO272.out).2.1); rintro e w' ⟨rfl, ⟨nd, rfl⟩⟩) | (go_at_call 35; (with_reducible refine (impl_CountBars.calls k _ _ t263 t280 _ ?side1 ?side2 A62.out).mono ?_); (case side1 => repeat (first | exact (Kd.R_reads' HO265.out).2.2 | (with_reducible refine Kd.C_alloc ?_ _) | (with_reducible refine Kd.C_drewN ?_ _) | (with_reducible refine Kd.C_drew ?_))); (case side2 => exact (Kd.R_reads' HO265.out).2.1); rintro e w86 ⟨rfl, hb⟩; have n0_ := Aside0.mk (Kd.R_below (by (with_reducible repeat (first | apply Kd.R_alloc | apply Kd.R_drewN | apply Kd.R_drew)); exact HO262.out) hb); have n1_ := Aside0.mk (Kd.R_below (by (with_reducible repeat (first | apply Kd.R_alloc | apply Kd.R_drewN | apply Kd.R_drew)); exact HO265.out) hb); have n2_ := Aside0.mk (Kd.R_below (by (with_reducible repeat (first | apply Kd.R_alloc | apply Kd.R_drewN | apply Kd.R_drew)); exact HO268.out) hb); have n3_ := Aside0.mk (Kd.R_below (by (with_reducible repeat (first | apply Kd.R_alloc | apply Kd.R_drewN | apply Kd.R_drew)); exact HO272.out) hb); have n4_ := Aside0.mk (below_step (by repeat (first | (with_reducible first | exact HB.out | apply below_alloc | apply pw_below_drewN | apply below_drew1) | exact HB.out)) hb); clear HO262; clear HO265; clear HO268; clear HO272; clear HB; have HO262 := n0_; have HO265 := n1_; have HO268 := n2_; have HO272 := n3_; have HB := n4_; clear n0_ n1_ n2_ n3_ n4_; (try clear hb); (try clear hb2); (try clear hk); (try clear hi)) | (go_at_call 37; (with_reducible refine (impl_IsTightPlan.calls k t259 _ _ t260 _ _ t263 t284 _ ?side1 ?side2 ?side3 ?side4 A75.out).mono ?_); (case side1 => repeat (first | exact (Kd.R_reads' HO262.out).2.2 | (with_reducible refine Kd.C_alloc ?_ _) | (with_reducible refine Kd.C_drewN ?_ _) | (with_reducible refine Kd.C_drew ?_))); (case side2 => exact (Kd.R_reads' HO262.out).2.1); (case side3 => repeat (first | exact (Kd.R_reads' HO265.out).2.2 | (with_reducible refine Kd.C_alloc ?_ _) | (with_reducible refine Kd.C_drewN ?_ _) | (with_reducible refine Kd.C_drew ?_))); (case side4 => exact (Kd.R_reads' HO265.out).2.1); rintro e w87 ⟨rfl, hb⟩; have n0_ := Aside0.mk (Kd.R_below (by (with_reducible repeat (first | apply Kd.R_alloc | apply Kd.R_drewN | apply Kd.R_drew)); exact HO262.out) hb); have n1_ := Aside0.mk (Kd.R_below (by (with_reducible repeat (first | apply Kd.R_alloc | apply Kd.R_drewN | apply Kd.R_drew)); exact HO265.out) hb); have n2_ := Aside0.mk (Kd.R_below (by (with_reducible repeat (first | apply Kd.R_alloc | apply Kd.R_drewN | apply Kd.R_drew)); exact HO268.out) hb); have n3_ := Aside0.mk (Kd.R_below (by (with_reducible repeat (first | apply Kd.R_alloc | apply Kd.R_drewN | apply Kd.R_drew)); exact HO272.out) hb); have n4_ := Aside0.mk (below_step (by repeat (first | (with_reducible first | exact HB.out | apply below_alloc | apply pw_below_drewN | apply below_drew1) | exact HB.out)) hb); clear HO262; clear HO265; clear HO268; clear HO272; clear HB; have HO262 := n0_; have HO265 := n1_; have HO268 := n2_; have HO272 := n3_; have HB := n4_; clear n0_ n1_ n2_ n3_ n4_; (try clear hb); (try clear hb2); (try clear hk); (try clear hi)))
                            go_meet
                            case rel => exact ⟨_, (!t284), (by first | rfl | (simp; done) | (simp [*]; done)), H', ⟨by first | omega | exact Nat.le_refl _⟩, ⟨by (with_reducible repeat (first | apply Kd.R_alloc | apply Kd.R_drewN | apply Kd.R_drew)); exact Kd.R_mono HO262.out (fun _ hk => ⟨hk.1.1.2, ⟨hk.1.2, hk.2⟩⟩)⟩, ⟨by (with_reducible repeat (first | apply Kd.R_alloc | apply Kd.R_drewN | apply Kd.R_drew)); exact Kd.R_mono HO265.out (fun _ hk => ⟨hk.1.1.2, ⟨hk.1.2, hk.2⟩⟩)⟩, ⟨by (with_reducible repeat (first | apply Kd.R_alloc | apply Kd.R_drewN | apply Kd.R_drew)); exact Kd.R_mono HO268.out (fun _ hk => ⟨hk.1.1.2, ⟨hk.1.2, hk.2⟩⟩)⟩, ⟨by (with_reducible repeat (first | apply Kd.R_alloc | apply Kd.R_drewN | apply Kd.R_drew)); exact Kd.R_mono HO272.out (fun _ hk => ⟨hk.1.1.2, ⟨hk.1.2, hk.2⟩⟩)⟩, ⟨by repeat (first | (with_reducible first | exact HB.out | apply below_alloc | apply pw_below_drewN | apply below_drew1) | exact HB.out)⟩⟩
                        · replace c61 := Bool.eq_false_iff.mpr c61
                          subst c61
                          have H1 : ((impl_IsTightPlan.f k t259 t260 t263).bind fun t285 => (laws_FnBars.j0 k t259 t260 t263 t266 t269 t273 t274 (!t285))) = some r := by rw [if_neg (show ¬ (false = true) by decide)] at H; exact H
                          clear H
                          have H := H1
                          clear H1
                          replace H := Option.bind_eq_some_iff.mp H
                          obtain ⟨t285, A880, H⟩ := H
                          replace H : (laws_FnBars.j0 k t259 t260 t263 t266 t269 t273 t274 (!t285)) = some r := H
                          have A88 := Aside0.mk A880
                          clear A880
                          have H' := Aside0.mk H
                          clear H
                          go_wp2_with (first | (go_at_call 33; (with_reducible refine (impl_BarsOk.calls t259 _ _ t260 true _ ?side1 ?side2 A18.out).mono ?_); (case side1 => repeat (first | exact (Kd.R_reads' HO262.out).2.2 | (with_reducible refine Kd.C_alloc ?_ _) | (with_reducible refine Kd.C_drewN ?_ _) | (with_reducible refine Kd.C_drew ?_))); (case side2 => exact (Kd.R_reads' HO262.out).2.1); rintro e w89 ⟨rfl, hb⟩; have n0_ := Aside0.mk (Kd.R_below (by (with_reducible repeat (first | apply Kd.R_alloc | apply Kd.R_drewN | apply Kd.R_drew)); exact HO262.out) hb); have n1_ := Aside0.mk (Kd.R_below (by (with_reducible repeat (first | apply Kd.R_alloc | apply Kd.R_drewN | apply Kd.R_drew)); exact HO265.out) hb); have n2_ := Aside0.mk (Kd.R_below (by (with_reducible repeat (first | apply Kd.R_alloc | apply Kd.R_drewN | apply Kd.R_drew)); exact HO268.out) hb); have n3_ := Aside0.mk (Kd.R_below (by (with_reducible repeat (first | apply Kd.R_alloc | apply Kd.R_drewN | apply Kd.R_drew)); exact HO272.out) hb); have n4_ := Aside0.mk (below_step (by repeat (first | (with_reducible first | exact HB.out | apply below_alloc | apply pw_below_drewN | apply below_drew1) | exact HB.out)) hb); clear HO262; clear HO265; clear HO268; clear HO272; clear HB; have HO262 := n0_; have HO265 := n1_; have HO268 := n2_; have HO272 := n3_; have HB := n4_; clear n0_ n1_ n2_ n3_ n4_; (try clear hb); (try clear hb2); (try clear hk); (try clear hi); obtain ⟨Ao90, co90, eo90⟩ := Kd.R_slice HO265.out; subst eo90) | (go_at_call 34; (with_reducible refine (impl_BarPlanOk.calls k t259 _ _ t260 _ _ t263 true _ ?side1 ?side2 ?side3 ?side4 A20.out).mono ?_); (case side1 => repeat (first | exact (Kd.R_reads' HO262.out).2.2 | (with_reducible refine Kd.C_alloc ?_ _) | (with_reducible refine Kd.C_drewN ?_ _) | (with_reducible refine Kd.C_drew ?_))); (case side2 => exact (Kd.R_reads' HO262.out).2.1); (case side3 => repeat (first | exact (Kd.R_reads' HO265.out).2.2 | (with_reducible refine Kd.C_alloc ?_ _) | (with_reducible refine Kd.C_drewN ?_ _) | (with_reducible refine Kd.C_drew ?_))); (case side4 => exact (Kd.R_reads' HO265.out).2.1); rintro e w91 ⟨rfl, hb⟩; have n0_ := Aside0.mk (Kd.R_below (by (with_reducible repeat (first | apply Kd.R_alloc | apply Kd.R_drewN | apply Kd.R_drew)); exact HO262.out) hb); have n1_ := Aside0.mk (Kd.R_below (by (with_reducible repeat (first | apply Kd.R_alloc | apply Kd.R_drewN | apply Kd.R_drew)); exact HO265.out) hb); have n2_ := Aside0.mk (Kd.R_below (by (with_reducible repeat (first | apply Kd.R_alloc | apply Kd.R_drewN | apply Kd.R_drew)); exact HO268.out) hb); have n3_ := Aside0.mk (Kd.R_below (by (with_reducible repeat (first | apply Kd.R_alloc | apply Kd.R_drewN | apply Kd.R_drew)); exact HO272.out) hb); have n4_ := Aside0.mk (below_step (by repeat (first | (with_reducible first | exact HB.out | apply below_alloc | apply pw_below_drewN | apply below_drew1) | exact HB.out)) hb); clear HO262; clear HO265; clear HO268; clear HO272; clear HB; have HO262 := n0_; have HO265 := n1_; have HO268 := n2_; have HO272 := n3_; have HB := n4_; clear n0_ n1_ n2_ n3_ n4_; (try clear hb); (try clear hb2); (try clear hk); (try clear hi); obtain ⟨Ao92, co92, eo92⟩ := Kd.R_slice HO268.out; subst eo92) | (go_at_call 34; (with_reducible refine (impl_BarPlanOk.calls k t259 _ _ t260 _ _ t266 true _ ?side1 ?side2 ?side3 ?side4 A22.out).mono ?_); (case side1 => repeat (first | exact (Kd.R_reads' HO262.out).2.2 | (with_reducible refine Kd.C_alloc ?_ _) | (with_reducible refine Kd.C_drewN ?_ _) | (with_reducible refine Kd.C_drew ?_))); (case side2 => exact (Kd.R_reads' HO262.out).2.1); (case side3 => repeat (first | exact (Kd.R_reads' HO268.out).2.2 | (with_reducible refine Kd.C_alloc ?_ _) | (with_reducible refine Kd.C_drewN ?_ _) | (with_reducible refine Kd.C_drew ?_))); (case side4 => exact (Kd.R_reads' HO268.out).2.1); rintro e w93 ⟨rfl, hb⟩; have n0_ := Aside0.mk (Kd.R_below (by (with_reducible repeat (first | apply Kd.R_alloc | apply Kd.R_drewN | apply Kd.R_drew)); exact HO262.out) hb); have n1_ := Aside0.mk (Kd.R_below (by (with_reducible repeat (first | apply Kd.R_alloc | apply Kd.R_drewN | apply Kd.R_drew)); exact HO265.out) hb); have n2_ := Aside0.mk (Kd.R_below (by (with_reducible repeat (first | apply Kd.R_alloc | apply Kd.R_drewN | apply Kd.R_drew)); exact HO268.out) hb); have n3_ := Aside0.mk (Kd.R_below (by (with_reducible repeat (first | apply Kd.R_alloc | apply Kd.R_drewN | apply Kd.R_drew)); exact HO272.out) hb); have n4_ := Aside0.mk (below_step (by repeat (first | (with_reducible first | exact HB.out | apply below_alloc | apply pw_below_drewN | apply below_drew1) | exact HB.out)) hb); clear HO262; clear HO265; clear HO268; clear HO272; clear HB; have HO262 := n0_; have HO265 := n1_; have HO268 := n2_; have HO272 := n3_; have HB := n4_; clear n0_ n1_ n2_ n3_ n4_; (try clear hb); (try clear hb2); (try clear hk); (try clear hi); obtain ⟨Ao94, co94, eo94⟩ := Kd.R_slice HO272.out; subst eo94) | (go_at_call 34; (with_reducible refine (impl_BarPlanOk.calls k t259 _ _ t260 _ _ t269 true _ ?side1 ?side2 ?side3 ?side4 A24.out).mono ?_); (case side1 => repeat (first | exact (Kd.R_reads' HO262.out).2.2 | (with_reducible refine Kd.C_alloc ?_ _) | (with_reducible refine Kd.C_drewN ?_ _) | (with_reducible refine Kd.C_drew ?_))); (case side2 => exact (Kd.R_reads' HO262.out).2.1); (case side3 => repeat (first | exact (Kd.R_reads' HO272.out).2.2 | (with_reducible refine Kd.C_alloc ?_ _) | (with_reducible refine Kd.C_drewN ?_ _) | (with_reducible refine Kd.C_drew ?_))); (case side4 => exact (Kd.R_reads' HO272.out).2.1); rintro e w95 ⟨rfl, hb⟩; have n0_ := Aside0.mk (Kd.R_below (by (with_reducible repeat (first | apply Kd.R_alloc | apply Kd.R_drewN | apply Kd.R_drew)); exact HO262.out) hb); have n1_ := Aside0.mk (Kd.R_below (by (with_reducible repeat (first | apply Kd.R_alloc | apply Kd.R_drewN | apply Kd.R_drew)); exact HO265.out) hb); have n2_ := Aside0.mk (Kd.R_below (by (with_reducible repeat (first | apply Kd.R_alloc | apply Kd.R_drewN | apply Kd.R_drew)); exact HO268.out) hb); have n3_ := Aside0.mk (Kd.R_below (by (with_reducible repeat (first | apply Kd.R_alloc | apply Kd.R_drewN | apply Kd.R_drew)); exact HO272.out) hb); have n4_ := Aside0.mk (below_step (by repeat (first | (with_reducible first | exact HB.out | apply below_alloc | apply pw_below_drewN | apply below_drew1) | exact HB.out)) hb); clear HO262; clear HO265; clear HO268; clear HO272; clear HB; have HO262 := n0_; have HO265 := n1_; have HO268 := n2_; have HO272 := n3_; have HB := n4_; clear n0_ n1_ n2_ n3_ n4_; (try clear hb); (try clear hb2); (try clear hk); (try clear hi)) | (go_at_call 35; (with_reducible refine (impl_CountBars.calls k _ _ t269 t279 _ ?side1 ?side2 A26.out).mono ?_); (case side1 => repeat (first | exact (Kd.R_reads' HO272.out).2.2 | (with_reducible refine Kd.C_alloc ?_ _) | (with_reducible refine Kd.C_drewN ?_ _) | (with_reducible refine Kd.C_drew ?_))); (case side2 => exact (Kd.R_reads' HO272.out).2.1); rintro e w96 ⟨rfl, hb⟩; have n0_ := Aside0.mk (Kd.R_below (by (with_reducible repeat (first | apply Kd.R_alloc | apply Kd.R_drewN | apply Kd.R_drew)); exact HO262.out) hb); have n1_ := Aside0.mk (Kd.R_below (by (with_reducible repeat (first | apply Kd.R_alloc | apply Kd.R_drewN | apply Kd.R_drew)); exact HO265.out) hb); have n2_ := Aside0.mk (Kd.R_below (by (with_reducible repeat (first | apply Kd.R_alloc | apply Kd.R_drewN | apply Kd.R_drew)); exact HO268.out) hb); have n3_ := Aside0.mk (Kd.R_below (by (with_reducible repeat (first | apply Kd.R_alloc | apply Kd.R_drewN | apply Kd.R_drew)); exact HO272.out) hb); have n4_ := Aside0.mk (below_step (by repeat (first | (with_reducible first | exact HB.out | apply below_alloc | apply pw_below_drewN | apply below_drew1) | exact HB.out)) hb); clear HO262; clear HO265; clear HO268; clear HO272; clear HB; have HO262 := n0_; have HO265 := n1_; have HO268 := n2_; have HO272 := n3_; have HB := n4_; clear n0_ n1_ n2_ n3_ n4_; (try clear hb); (try clear hb2); (try clear hk); (try clear hi)) | (go_at_call 35; (with_reducible refine (impl_CountBars.calls k _ _ t263 t280 _ ?side1 ?side2 A37.out).mono ?_); (case side1 => repeat (first | exact (Kd.R_reads' HO265.out).2.2 | (with_reducible refine Kd.C_alloc ?_ _) | (with_reducible refine Kd.C_drewN ?_ _) | (with_reducible refine Kd.C_drew ?_))); (case side2 => exact (Kd.R_reads' HO265.out).2.1); rintro e w97 ⟨rfl, hb⟩; have n0_ := Aside0.mk (Kd.R_below (by (with_reducible repeat (first | apply Kd.R_alloc | apply Kd.R_drewN | apply Kd.R_drew)); exact HO262.out) hb); have n1_ := Aside0.mk (Kd.R_below (by (with_reducible repeat (first | apply Kd.R_alloc | apply Kd.R_drewN | apply Kd.R_drew)); exact HO265.out) hb); have n2_ := Aside0.mk (Kd.R_below (by (with_reducible repeat (first | apply Kd.R_alloc | apply Kd.R_drewN | apply Kd.R_drew)); exact HO268.out) hb); have n3_ := Aside0.mk (Kd.R_below (by (with_reducible repeat (first | apply Kd.R_alloc | apply Kd.R_drewN | apply Kd.R_drew)); exact HO272.out) hb); have n4_ := Aside0.mk (below_step (by repeat (first | (with_reducible first | exact HB.out | apply below_alloc | apply pw_below_drewN | apply below_drew1) | exact HB.out)) hb); clear HO262; clear HO265; clear HO268; clear HO272; clear HB; have HO262 := n0_; have HO265 := n1_; have HO268 := n2_; have HO272 := n3_; have HB := n4_; clear n0_ n1_ n2_ n3_ n4_; (try clear hb); (try clear hb2); (try clear hk); (try clear hi)) | (go_at_call 35; (with_reducible refine (impl_CountBars.calls k _ _ t266 t281 _ ?side1 ?side2 A48.out).mono ?_); (case side1 => repeat (first | exact (Kd.R_reads' HO268.out).2.2 | (with_reducible refine Kd.C_alloc ?_ _) | (with_reducible refine Kd.C_drewN ?_ _) | (with_reducible refine Kd.C_drew ?_))); (case side2 => exact (Kd.R_reads' HO268.out).2.1); rintro e w98 ⟨rfl, hb⟩; have n0_ := Aside0.mk (Kd.R_below (by (with_reducible repeat (first | apply Kd.R_alloc | apply Kd.R_drewN | apply Kd.R_drew)); exact HO262.out) hb); have n1_ := Aside0.mk (Kd.R_below (by (with_reducible repeat (first | apply Kd.R_alloc | apply Kd.R_drewN | apply Kd.R_drew)); exact HO265.out) hb); have n2_ := Aside0.mk (Kd.R_below (by (with_reducible repeat (first | apply Kd.R_alloc | apply Kd.R_drewN | apply Kd.R_drew)); exact HO268.out) hb); have n3_ := Aside0.mk (Kd.R_below (by (with_reducible repeat (first | apply Kd.R_alloc | apply Kd.R_drewN | apply Kd.R_drew)); exact HO272.out) hb); have n4_ := Aside0.mk (below_step (by repeat (first | (with_reducible first | exact HB.out | apply below_alloc | apply pw_below_drewN | apply below_drew1) | exact HB.out)) hb); clear HO262; clear HO265; clear HO268; clear HO272; clear HB; have HO262 := n0_; have HO265 := n1_; have HO268 := n2_; have HO272 := n3_; have HB := n4_; clear n0_ n1_ n2_ n3_ n4_; (try clear hb); (try clear hb2); (try clear hk); (try clear hi)) | (go_at_call 36; (with_reducible refine (laws_before.calls k _ _ t263 _ _ t269 false _ ?side1 ?side2 ?side3 ?side4 A60.out).mono ?_); (case side1 => repeat (first | exact (Kd.R_reads' HO265.out).2.2 | (with_reducible refine Kd.C_alloc ?_ _) | (with_reducible refine Kd.C_drewN ?_ _) | (with_reducible refine Kd.C_drew ?_))); (case side2 => exact (Kd.R_reads' HO265.out).2.1); (case side3 => repeat (first | exact (Kd.R_reads' HO272.out).2.2 | (with_reducible refine Kd.C_alloc ?_ _) | (with_reducible refine Kd.C_drewN ?_ _) | (with_reducible refine Kd.C_drew ?_))); (case side4 => exact (Kd.R_reads' HO272.out).2.1); rintro e w' ⟨rfl, ⟨nd, rfl⟩⟩) | (go_at_call 37; (with_reducible refine (impl_IsTightPlan.calls k t259 _ _ t260 _ _ t263 t285 _ ?side1 ?side2 ?side3 ?side4 A88.out).mono ?_); (case side1 => repeat (first | exact (Kd.R_reads' HO262.out).2.2 | (with_reducible refine Kd.C_alloc ?_ _) | (with_reducible refine Kd.C_drewN ?_ _) | (with_reducible refine Kd.C_drew ?_))); (case side2 => exact (Kd.R_reads' HO262.out).2.1); (case side3 => repeat (first | exact (Kd.R_reads' HO265.out).2.2 | (with_reducible refine Kd.C_alloc ?_ _) | (with_reducible refine Kd.C_drewN ?_ _) | (with_reducible refine Kd.C_drew ?_))); (case side4 => exact (Kd.R_reads' HO265.out).2.1); rintro e w99 ⟨rfl, hb⟩; have n0_ := Aside0.mk (Kd.R_below (by (with_reducible repeat (first | apply Kd.R_alloc | apply Kd.R_drewN | apply Kd.R_drew)); exact HO262.out) hb); have n1_ := Aside0.mk (Kd.R_below (by (with_reducible repeat (first | apply Kd.R_alloc | apply Kd.R_drewN | apply Kd.R_drew)); exact HO265.out) hb); have n2_ := Aside0.mk (Kd.R_below (by (with_reducible repeat (first | apply Kd.R_alloc | apply Kd.R_drewN | apply Kd.R_drew)); exact HO268.out) hb); have n3_ := Aside0.mk (Kd.R_below (by (with_reducible repeat (first | apply Kd.R_alloc | apply Kd.R_drewN | apply Kd.R_drew)); exact HO272.out) hb); have n4_ := Aside0.mk (below_step (by repeat (first | (with_reducible first | exact HB.out | apply below_alloc | apply pw_below_drewN | apply below_drew1) | exact HB.out)) hb); clear HO262; clear HO265; clear HO268; clear HO272; clear HB; have HO262 := n0_; have HO265 := n1_; have HO268 := n2_; have HO272 := n3_; have HB := n4_; clear n0_ n1_ n2_ n3_ n4_; (try clear hb); (try clear hb2); (try clear hk); (try clear hi)))
                          go_meet
                          case rel => exact ⟨_, (!t285), (by first | rfl | (simp; done) | (simp [*]; done)), H', ⟨by first | omega | exact Nat.le_refl _⟩, ⟨by (with_reducible repeat (first | apply Kd.R_alloc | apply Kd.R_drewN | apply Kd.R_drew)); exact Kd.R_mono HO262.out (fun _ hk => ⟨hk.1.1.2, ⟨hk.1.2, hk.2⟩⟩)⟩, ⟨by (with_reducible repeat (first | apply Kd.R_alloc | apply Kd.R_drewN | apply Kd.R_drew)); exact Kd.R_mono HO265.out (fun _ hk => ⟨hk.1.1.2, ⟨hk.1.2, hk.2⟩⟩)⟩, ⟨by (with_reducible repeat (first | apply Kd.R_alloc | apply Kd.R_drewN | apply Kd.R_drew)); exact Kd.R_mono HO268.out (fun _ hk => ⟨hk.1.1.2, ⟨hk.1.2, hk.2⟩⟩)⟩, ⟨by (with_reducible repeat (first | apply Kd.R_alloc | apply Kd.R_drewN | apply Kd.R_drew)); exact Kd.R_mono HO272.out (fun _ hk => ⟨hk.1.1.2, ⟨hk.1.2, hk.2⟩⟩)⟩, ⟨by repeat (first | (with_reducible first | exact HB.out | apply below_alloc | apply pw_below_drewN | apply below_drew1) | exact HB.out)⟩⟩
                · rw [if_neg c27] at H
                  exact (laws_FnBars.j0_dead HT H).elim
              · replace c25 := Bool.eq_false_iff.mpr c25
                subst c25
                have H1 : (laws_FnBars.j0 k t259 t260 t263 t266 t269 t273 t274 true) = some r := by rw [if_neg (show ¬ (false = true) by decide)] at H; exact H
                exact (laws_FnBars.j0_dead HT H1).elim
            · replace c23 := Bool.eq_false_iff.mpr c23
              subst c23
              have H1 : (laws_FnBars.j0 k t259 t260 t263 t266 t269 t273 t274 true) = some r := by rw [if_neg (show ¬ (false = true) by decide)] at H; exact H
              exact (laws_FnBars.j0_dead HT H1).elim
          · replace c21 := Bool.eq_false_iff.mpr c21
            subst c21
            have H1 : (laws_FnBars.j0 k t259 t260 t263 t266 t269 t273 t274 true) = some r := by rw [if_neg (show ¬ (false = true) by decide)] at H; exact H
            exact (laws_FnBars.j0_dead HT H1).elim
        · replace c19 := Bool.eq_false_iff.mpr c19
          subst c19
          have H1 : (laws_FnBars.j0 k t259 t260 t263 t266 t269 t273 t274 true) = some r := by rw [if_neg (show ¬ (false = true) by decide)] at H; exact H
          exact (laws_FnBars.j0_dead HT H1).elim
      · replace c17 := Bool.eq_false_iff.mpr c17
        subst c17
        have H1 : (laws_FnBars.j0 k t259 t260 t263 t266 t269 t273 t274 true) = some r := by rw [if_neg (show ¬ (false = true) by decide)] at H; exact H
        exact (laws_FnBars.j0_dead HT H1).elim
    case rest =>
      clear HC9
      try clear c1
      try clear c2
      try clear c2b0
      try clear c2b1
      try clear p2
      try clear c3
      try clear c4
      try clear c5
      try clear c6
      try clear c17
      try clear c19
      try clear c21
      try clear c23
      try clear c25
      try clear c27
      try clear c27b0
      try clear c27b1
      try clear c28
      try clear c28b0
      try clear c29
      try clear c30
      try clear c31
      try clear c32
      try clear c38
      try clear c38b0
      try clear c49
      try clear c49b0
      try clear c61
      try clear c63
      try clear c63b0
      try clear c63b1
      obtain ⟨kq, x109_8, rfl, HA, HJ8, HO_4, HO_5, HO_6, HO_7, HB⟩ := hcut
      cases kq with
      | zero => exact absurd HA.out (by simp [laws_FnBars.j0])
      | succ kj8 =>
        have H := HA.out
        clear HA
        simp only [laws_FnBars.j0] at H
        by_cases c124 : x109_8 = true
        · subst c124
          have H1 : (some false) = some r := by rw [if_pos rfl] at H; exact H
          exact (laws_FnBars.no_false HT H1).elim
        · replace c124 := Bool.eq_false_iff.mpr c124
          subst c124
          have H1 : (if (t260.length : Int) > 0 then ((impl_CountBars.f kj8 t263).bind fun t286 => (if t286 > (wrap64 (2 * t274)) then (laws_FnBars.j1 kj8 t259 t260 t269 t273 true) else ((impl_CountBars.f kj8 t266).bind fun t287 => (laws_FnBars.j1 kj8 t259 t260 t269 t273 (decide ((wrap64 (9 * t287)) > (wrap64 ((wrap64 (11 * t273)) + 6)))))))) else ((impl_CountBars.f kj8 t266).bind fun t288 => (laws_FnBars.j1 kj8 t259 t260 t269 t273 (decide ((wrap64 (9 * t288)) > (wrap64 ((wrap64 (11 * t273)) + 6))))))) = some r := by rw [if_neg (show ¬ (false = true) by decide)] at H; exact H
          clear H
          have H := H1
          clear H1
          have HC125 := Aside0.mk H
          clear H
          go_upto_region 11 with (fail)
          go_cut [128] (fun v128 wc => ∃ (kq : Nat) (x128_124 : Bool), v128 = .bool x128_124 ∧ Aside0 (laws_FnBars.j1 kq t259 t260 t269 t273 x128_124 = some r) ∧ Aside0 (kq ≤ kj8) ∧ Aside0 (Kd.R (Kd.int .i64) 3 wc w.heap.size (fun k_ => some k_ ≠ (v271 : Value).ownBlock) (.slice Ao11 t260.length co11) t260) ∧ Aside0 (Kd.R (Kd.int .i64) 3 wc w.heap.size (fun k_ => some k_ ≠ ((.slice Ao11 t260.length co11) : Value).ownBlock) v271 t269) ∧ Aside0 (Below w.heap.size w wc))
          case first =>
            have H := HC125.out
            clear HC125
            by_cases c126 : (t260.length : Int) > 0
            · rw [if_pos c126] at H
              have c126b0 : decide (0 < (t260.length : Int)) = true := decide_eq_true c126
              have c126b1 : decide (0 < t260.length) = true := decide_eq_true (by omega)
              clear c126
              (first | rw [c126b0] | (simp only [i64_w, i32_w]; rw [c126b0]) | skip)
              replace H := Option.bind_eq_some_iff.mp H
              obtain ⟨t286, A1270, H⟩ := H
              replace H : (if t286 > (wrap64 (2 * t274)) then (laws_FnBars.j1 kj8 t259 t260 t269 t273 true) else ((impl_CountBars.f kj8 t266).bind fun t287 => (laws_FnBars.j1 kj8 t259 t260 t269 t273 (decide ((wrap64 (9 * t287)) > (wrap64 ((wrap64 (11 * t273)) + 6))))))) = some r := H
              have A127 := Aside0.mk A1270
              clear A1270
              by_cases c128 : t286 > (wrap64 (2 * t274))
              · rw [if_pos c128] at H
                exact (laws_FnBars.j1_dead HT H).elim
              · rw [if_neg c128] at H
                have c128b0 : decide ((wrap64 (2 * t274)) < t286) = false := decide_eq_false c128
                clear c128
                replace H := Option.bind_eq_some_iff.mp H
                obtain ⟨t287, A1310, H⟩ := H
                replace H : (laws_FnBars.j1 kj8 t259 t260 t269 t273 (decide ((wrap64 (9 * t287)) > (wrap64 ((wrap64 (11 * t273)) + 6))))) = some r := H
                have A131 := Aside0.mk A1310
                clear A1310
                have H' := Aside0.mk H
                clear H
                obtain ⟨Ao132, co132, eo132⟩ := Kd.R_slice HO_5.out
                subst eo132
                go_wp2_with (first | (go_at_call 35; (with_reducible refine (impl_CountBars.calls kj8 _ _ t263 t286 _ ?side1 ?side2 A127.out).mono ?_); (case side1 => repeat (first | exact (Kd.R_reads' HO_5.out).2.2 | (with_reducible refine Kd.C_alloc ?_ _) | (with_reducible refine Kd.C_drewN ?_ _) | (with_reducible refine Kd.C_drew ?_))); (case side2 => exact (Kd.R_reads' HO_5.out).2.1); rintro e w133 ⟨rfl, hb⟩; have n0_ := Aside0.mk (Kd.R_below (by (with_reducible repeat (first | apply Kd.R_alloc | apply Kd.R_drewN | apply Kd.R_drew)); exact HO_4.out) hb); have n1_ := Aside0.mk (Kd.R_below (by (with_reducible repeat (first | apply Kd.R_alloc | apply Kd.R_drewN | apply Kd.R_drew)); exact HO_5.out) hb); have n2_ := Aside0.mk (Kd.R_below (by (with_reducible repeat (first | apply Kd.R_alloc | apply Kd.R_drewN | apply Kd.R_drew)); exact HO_6.out) hb); have n3_ := Aside0.mk (Kd.R_below (by (with_reducible repeat (first | apply Kd.R_alloc | apply Kd.R_drewN | apply Kd.R_drew)); exact HO_7.out) hb); have n4_ := Aside0.mk (below_step (by repeat (first | (with_reducible first | exact HB.out | apply below_alloc | apply pw_below_drewN | apply below_drew1) | exact HB.out)) hb); clear HO_4; clear HO_5; clear HO_6; clear HO_7; clear HB; have HO_4 := n0_; have HO_5 := n1_; have HO_6 := n2_; have HO_7 := n3_; have HB := n4_; clear n0_ n1_ n2_ n3_ n4_; (try clear hb); (try clear hb2); (try clear hk); (try clear hi); obtain ⟨Ao134, co134, eo134⟩ := Kd.R_slice HO_6.out; subst eo134) | (go_at_call 35; (with_reducible refine (impl_CountBars.calls kj8 _ _ t266 t287 _ ?side1 ?side2 A131.out).mono ?_); (case side1 => repeat (first | exact (Kd.R_reads' HO_6.out).2.2 | (with_reducible refine Kd.C_alloc ?_ _) | (with_reducible refine Kd.C_drewN ?_ _) | (with_reducible refine Kd.C_drew ?_))); (case side2 => exact (Kd.R_reads' HO_6.out).2.1); rintro e w135 ⟨rfl, hb⟩; have n0_ := Aside0.mk (Kd.R_below (by (with_reducible repeat (first | apply Kd.R_alloc | apply Kd.R_drewN | apply Kd.R_drew)); exact HO_4.out) hb); have n1_ := Aside0.mk (Kd.R_below (by (with_reducible repeat (first | apply Kd.R_alloc | apply Kd.R_drewN | apply Kd.R_drew)); exact HO_5.out) hb); have n2_ := Aside0.mk (Kd.R_below (by (with_reducible repeat (first | apply Kd.R_alloc | apply Kd.R_drewN | apply Kd.R_drew)); exact HO_6.out) hb); have n3_ := Aside0.mk (Kd.R_below (by (with_reducible repeat (first | apply Kd.R_alloc | apply Kd.R_drewN | apply Kd.R_drew)); exact HO_7.out) hb); have n4_ := Aside0.mk (below_step (by repeat (first | (with_reducible first | exact HB.out | apply below_alloc | apply pw_below_drewN | apply below_drew1) | exact HB.out)) hb); clear HO_4; clear HO_5; clear HO_6; clear HO_7; clear HB; have HO_4 := n0_; have HO_5 := n1_; have HO_6 := n2_; have HO_7 := n3_; have HB := n4_; clear n0_ n1_ n2_ n3_ n4_; (try clear hb); (try clear hb2); (try clear hk); (try clear hi)))
                go_meet
                case rel => exact ⟨_, (decide ((wrap64 (9 * t287)) > (wrap64 ((wrap64 (11 * t273)) + 6)))), (by first | rfl | (simp; done) | (simp [*]; done)), H', ⟨by have := HJ8.out; first | omega | exact Nat.le_refl _⟩, ⟨by (with_reducible repeat (first | apply Kd.R_alloc | apply Kd.R_drewN | apply Kd.R_drew)); exact Kd.R_mono HO_4.out (fun _ hk => hk.2.2)⟩, ⟨by (with_reducible repeat (first | apply Kd.R_alloc | apply Kd.R_drewN | apply Kd.R_drew)); exact Kd.R_mono HO_7.out (fun _ hk => hk.1)⟩, ⟨by repeat (first | (with_reducible first | exact HB.out | apply below_alloc | apply pw_below_drewN | apply below_drew1) | exact HB.out)⟩⟩
            · rw [if_neg c126] at H
              have c126b0 : decide (0 < (t260.length : Int)) = false := decide_eq_false c126
              have c126b1 : decide (0 < t260.length) = false := decide_eq_false (by omega)
              clear c126
              (first | rw [c126b0] | (simp only [i64_w, i32_w]; rw [c126b0]) | skip)
              replace H := Option.bind_eq_some_iff.mp H
              obtain ⟨t288, A1360, H⟩ := H
              replace H : (laws_FnBars.j1 kj8 t259 t260 t269 t273 (decide ((wrap64 (9 * t288)) > (wrap64 ((wrap64 (11 * t273)) + 6))))) = some r := H
              have A136 := Aside0.mk A1360
              clear A1360
              have H' := Aside0.mk H
              clear H
              obtain ⟨Ao137, co137, eo137⟩ := Kd.R_slice HO_6.out
              subst eo137
              go_wp2_with (first | (go_at_call 35; (with_reducible refine (impl_CountBars.calls kj8 _ _ t266 t288 _ ?side1 ?side2 A136.out).mono ?_); (case side1 => repeat (first | exact (Kd.R_reads' HO_6.out).2.2 | (with_reducible refine Kd.C_alloc ?_ _) | (with_reducible refine Kd.C_drewN ?_ _) | (with_reducible refine Kd.C_drew ?_))); (case side2 => exact (Kd.R_reads' HO_6.out).2.1); rintro e w138 ⟨rfl, hb⟩; have n0_ := Aside0.mk (Kd.R_below (by (with_reducible repeat (first | apply Kd.R_alloc | apply Kd.R_drewN | apply Kd.R_drew)); exact HO_4.out) hb); have n1_ := Aside0.mk (Kd.R_below (by (with_reducible repeat (first | apply Kd.R_alloc | apply Kd.R_drewN | apply Kd.R_drew)); exact HO_5.out) hb); have n2_ := Aside0.mk (Kd.R_below (by (with_reducible repeat (first | apply Kd.R_alloc | apply Kd.R_drewN | apply Kd.R_drew)); exact HO_6.out) hb); have n3_ := Aside0.mk (Kd.R_below (by (with_reducible repeat (first | apply Kd.R_alloc | apply Kd.R_drewN | apply Kd.R_drew)); exact HO_7.out) hb); have n4_ := Aside0.mk (below_step (by repeat (first | (with_reducible first | exact HB.out | apply below_alloc | apply pw_below_drewN | apply below_drew1) | exact HB.out)) hb); clear HO_4; clear HO_5; clear HO_6; clear HO_7; clear HB; have HO_4 := n0_; have HO_5 := n1_; have HO_6 := n2_; have HO_7 := n3_; have HB := n4_; clear n0_ n1_ n2_ n3_ n4_; (try clear hb); (try clear hb2); (try clear hk); (try clear hi)))
              go_meet
              case rel => exact ⟨_, (decide ((wrap64 (9 * t288)) > (wrap64 ((wrap64 (11 * t273)) + 6)))), (by first | rfl | (simp; done) | (simp [*]; done)), H', ⟨by have := HJ8.out; first | omega | exact Nat.le_refl _⟩, ⟨by (with_reducible repeat (first | apply Kd.R_alloc | apply Kd.R_drewN | apply Kd.R_drew)); exact Kd.R_mono HO_4.out (fun _ hk => hk.2.2)⟩, ⟨by (with_reducible repeat (first | apply Kd.R_alloc | apply Kd.R_drewN | apply Kd.R_drew)); exact Kd.R_mono HO_7.out (fun _ hk => hk.1)⟩, ⟨by repeat (first | (with_reducible first | exact HB.out | apply below_alloc | apply pw_below_drewN | apply below_drew1) | exact HB.out)⟩⟩
          case rest =>
            clear HC125
            try clear c1
            try clear c2
            try clear c2b0
            try clear c2b1
            try clear p2
            try clear c3
            try clear c4
            try clear c5
            try clear c6
            try clear p6
            try clear c12
            try clear c17
            try clear c19
            try clear c21
            try clear c23
            try clear c25
            try clear c27
            try clear c27b0
            try clear c27b1
            try clear c28
            try clear c28b0
            try clear c29
            try clear c30
            try clear c31
            try clear c32
            try clear c38
            try clear c38b0
            try clear c49
            try clear c49b0
            try clear c61
            try clear c63
            try clear c63b0
            try clear c63b1
            try clear p64
            try clear c124
            try clear c126
            try clear c126b0
            try clear c126b1
            try clear c128
            try clear c128b0
            try clear p2
            obtain ⟨kq, x128_124, rfl, HA, HJ124, HO_4, HO_7, HB⟩ := hcut
            cases kq with
            | zero => exact absurd HA.out (by simp [laws_FnBars.j1])
            | succ kj124 =>
              have H := HA.out
              clear HA
              simp only [laws_FnBars.j1] at H
              by_cases c139 : x128_124 = true
              · subst c139
                have H1 : (some false) = some r := by rw [if_pos rfl] at H; exact H
                exact (laws_FnBars.no_false HT H1).elim
              · replace c139 := Bool.eq_false_iff.mpr c139
                subst c139
                have H1 : ((impl_LeftOn.f kj124 t259 t260 t269).bind fun t289 => (if (t289.length : Int) = t273 then ((laws_sum.f kj124 t289).bind fun t292 => ((laws_sum.f kj124 t260).bind fun t293 => (laws_FnBars.j2 kj124 t259 t260 t273 t289 ((wrap64 (t292 + t293)) != (wrap64 (t273 * t259)))))) else (laws_FnBars.j2 kj124 t259 t260 t273 t289 true))) = some r := by rw [if_neg (show ¬ (false = true) by decide)] at H; exact H
                clear H
                have H := H1
                clear H1
                replace H := Option.bind_eq_some_iff.mp H
                obtain ⟨t289, A1400, H⟩ := H
                replace H : (if (t289.length : Int) = t273 then ((laws_sum.f kj124 t289).bind fun t292 => ((laws_sum.f kj124 t260).bind fun t293 => (laws_FnBars.j2 kj124 t259 t260 t273 t289 ((wrap64 (t292 + t293)) != (wrap64 (t273 * t259)))))) else (laws_FnBars.j2 kj124 t259 t260 t273 t289 true)) = some r := H
                have A140 := Aside0.mk A1400
                clear A1400
                have HC141 := Aside0.mk H
                clear H
                obtain ⟨Ao142, co142, eo142⟩ := Kd.R_slice HO_7.out
                subst eo142
                go_upto_region 14 with (first | ((with_reducible refine gate_callee (f := 38) rfl ?_); refine goesL_ (some 132) rfl rfl Try.func38 (by kernel_rfl) rfl #[.int .i64 t259, .slice Ao11 t260.length co11, .slice Ao142 t269.length co142] rfl (by (try simp only [List.map_toArray, List.map_cons, List.map_nil]); first | done | rfl | (simp only [List.length_drop, List.length_take]; rfl)) ?_; (with_reducible refine (impl_LeftOn.calls kj124 t259 _ _ t260 _ _ t269 t289 _ ?side1 ?side2 ?side3 ?side4 A140.out).mono ?_); (case side1 => repeat (first | exact (Kd.R_reads' HO_4.out).2.2 | (with_reducible refine Kd.C_alloc ?_ _) | (with_reducible refine Kd.C_drewN ?_ _) | (with_reducible refine Kd.C_drew ?_))); (case side2 => exact (Kd.R_reads' HO_4.out).2.1); (case side3 => repeat (first | exact (Kd.R_reads' HO_7.out).2.2 | (with_reducible refine Kd.C_alloc ?_ _) | (with_reducible refine Kd.C_drewN ?_ _) | (with_reducible refine Kd.C_drew ?_))); (case side4 => exact (Kd.R_reads' HO_7.out).2.1); rintro e w143 ⟨v290, rfl, ho0, hb⟩; refine ⟨_, rfl, ?_⟩; have n0_ := Aside0.mk (Kd.R_elder' (by (with_reducible repeat (first | apply Kd.R_alloc | apply Kd.R_drewN | apply Kd.R_drew)); exact HO_4.out) (Kd.R_base ho0) hb); have n1_ := Aside0.mk (Kd.R_elder' (by (with_reducible repeat (first | apply Kd.R_alloc | apply Kd.R_drewN | apply Kd.R_drew)); exact HO_7.out) (Kd.R_base ho0) hb); have n2_ := Aside0.mk (Kd.R_lower (Kd.R_new' (Kd.R_new' ho0 (Kd.R_lt (by (with_reducible repeat (first | apply Kd.R_alloc | apply Kd.R_drewN | apply Kd.R_drew)); exact HO_4.out))) (Kd.R_lt (by (with_reducible repeat (first | apply Kd.R_alloc | apply Kd.R_drewN | apply Kd.R_drew)); exact HO_7.out))) (below_size (by repeat (first | (with_reducible first | exact HB.out | apply below_alloc | apply pw_below_drewN | apply below_drew1) | exact HB.out)))); have n3_ := Aside0.mk (below_step (by repeat (first | (with_reducible first | exact HB.out | apply below_alloc | apply pw_below_drewN | apply below_drew1) | exact HB.out)) hb); clear HO_4; clear HO_7; clear HB; have HO_4 := n0_; have HO_7 := n1_; have HO291 := n2_; have HB := n3_; clear n0_ n1_ n2_ n3_; (try clear hb); (try clear hb2); (try clear hk); (try clear hi); (try clear ho0)))
                (try simp only [Act.put, List.setIfInBounds_toArray, List.set_cons_zero, List.set_cons_succ])
                go_cut [147] (fun v147 wc => ∃ (kq : Nat) (x147_140 : Bool), v147 = .bool x147_140 ∧ Aside0 (laws_FnBars.j2 kq t259 t260 t273 t289 x147_140 = some r) ∧ Aside0 (kq ≤ kj124) ∧ Aside0 (Kd.R (Kd.int .i64) 3 wc w.heap.size (fun k_ => some k_ ≠ (v290 : Value).ownBlock) (.slice Ao11 t260.length co11) t260) ∧ Aside0 (Kd.R (Kd.int .i64) 3 wc w.heap.size (fun k_ => some k_ ≠ ((.slice Ao11 t260.length co11) : Value).ownBlock) v290 t289) ∧ Aside0 (Below w.heap.size w wc))
                case first =>
                  have H := HC141.out
                  clear HC141
                  by_cases c144 : (t289.length : Int) = t273
                  · rw [if_pos c144] at H
                    have c144b0 : ((t289.length : Int) == t273) = true := beq_iff_eq.mpr c144
                    have c144b1 : ((t289.length : Int) != t273) = false := bne_eq_false_iff_eq.mpr c144
                    clear c144
                    (first | rw [c144b0] | (simp only [i64_w, i32_w]; rw [c144b0]) | skip)
                    replace H := Option.bind_eq_some_iff.mp H
                    obtain ⟨t292, A1450, H⟩ := H
                    replace H : ((laws_sum.f kj124 t260).bind fun t293 => (laws_FnBars.j2 kj124 t259 t260 t273 t289 ((wrap64 (t292 + t293)) != (wrap64 (t273 * t259))))) = some r := H
                    have A145 := Aside0.mk A1450
                    clear A1450
                    replace H := Option.bind_eq_some_iff.mp H
                    obtain ⟨t293, A1460, H⟩ := H
                    replace H : (laws_FnBars.j2 kj124 t259 t260 t273 t289 ((wrap64 (t292 + t293)) != (wrap64 (t273 * t259)))) = some r := H
                    have A146 := Aside0.mk A1460
                    clear A1460
                    have H' := Aside0.mk H
                    clear H
                    obtain ⟨Ao147, co147, eo147⟩ := Kd.R_slice HO291.out
                    subst eo147
                    go_wp2_with (first | (go_at_call 39; (with_reducible refine (laws_sum.calls kj124 _ _ t289 t292 _ ?side1 ?side2 A145.out).mono ?_); (case side1 => repeat (first | exact (Kd.R_reads' HO291.out).2.2 | (with_reducible refine Kd.C_alloc ?_ _) | (with_reducible refine Kd.C_drewN ?_ _) | (with_reducible refine Kd.C_drew ?_))); (case side2 => exact (Kd.R_reads' HO291.out).2.1); rintro e w' ⟨rfl, ⟨nd, rfl⟩⟩) | (go_at_call 39; (with_reducible refine (laws_sum.calls kj124 _ _ t260 t293 _ ?side1 ?side2 A146.out).mono ?_); (case side1 => repeat (first | exact (Kd.R_reads' HO_4.out).2.2 | (with_reducible refine Kd.C_alloc ?_ _) | (with_reducible refine Kd.C_drewN ?_ _) | (with_reducible refine Kd.C_drew ?_))); (case side2 => exact (Kd.R_reads' HO_4.out).2.1); rintro e w' ⟨rfl, ⟨nd, rfl⟩⟩))
                    go_meet
                    case rel => exact ⟨_, (((wrap64 (t292 + t293)) != (wrap64 (t273 * t259)))), (by first | rfl | (simp; done) | (simp [*]; done)), H', ⟨by have := HJ8.out; have := HJ124.out; first | omega | exact Nat.le_refl _⟩, ⟨by (with_reducible repeat (first | apply Kd.R_alloc | apply Kd.R_drewN | apply Kd.R_drew)); exact Kd.R_mono HO_4.out (fun _ hk => hk.2)⟩, ⟨by (with_reducible repeat (first | apply Kd.R_alloc | apply Kd.R_drewN | apply Kd.R_drew)); exact Kd.R_mono HO291.out (fun _ hk => hk.1.2)⟩, ⟨by repeat (first | (with_reducible first | exact HB.out | apply below_alloc | apply pw_below_drewN | apply below_drew1) | exact HB.out)⟩⟩
                  · rw [if_neg c144] at H
                    exact (laws_FnBars.j2_dead HT H).elim
                case rest =>
                  clear HC141
                  try clear c1
                  try clear c2
                  try clear c2b0
                  try clear c2b1
                  try clear p2
                  try clear c3
                  try clear c4
                  try clear c5
                  try clear c6
                  try clear p6
                  try clear c12
                  try clear c13
                  try clear c14
                  try clear c17
                  try clear c19
                  try clear c21
                  try clear c23
                  try clear c25
                  try clear c27
                  try clear c27b0
                  try clear c27b1
                  try clear c28
                  try clear c28b0
                  try clear c29
                  try clear c30
                  try clear c31
                  try clear c32
                  try clear c38
                  try clear c38b0
                  try clear c49
                  try clear c49b0
                  try clear c61
                  try clear c63
                  try clear c63b0
                  try clear c63b1
                  try clear p64
                  try clear c124
                  try clear c126
                  try clear c126b0
                  try clear c126b1
                  try clear c128
                  try clear c128b0
                  try clear c139
                  try clear c144
                  try clear c144b0
                  try clear c144b1
                  try clear p2
                  try clear p6
                  try clear p64
                  obtain ⟨kq, x147_140, rfl, HA, HJ140, HO_4, HO_11, HB⟩ := hcut
                  cases kq with
                  | zero => exact absurd HA.out (by simp [laws_FnBars.j2])
                  | succ kj140 =>
                    have H := HA.out
                    clear HA
                    simp only [laws_FnBars.j2] at H
                    by_cases c149 : x147_140 = true
                    · subst c149
                      have H1 : (some false) = some r := by rw [if_pos rfl] at H; exact H
                      exact (laws_FnBars.no_false HT H1).elim
                    · replace c149 := Bool.eq_false_iff.mpr c149
                      subst c149
                      have H1 : (laws_FnBars.l0 kj140 t259 t260 t273 t289 (t289.length : Int) 0) = some r := by rw [if_neg (show ¬ (false = true) by decide)] at H; exact H
                      clear H
                      have H := H1
                      clear H1
                      have H' := Aside0.mk H
                      clear H
                      obtain ⟨Ao150, co150, eo150⟩ := Kd.R_slice HO_11.out
                      subst eo150
                      go_wp2
                      go_loopg [150] kj140 (fun kq v150 w' => ∃ (x150_4 : Int), v150 = .int .i64 x150_4 ∧ Aside0 (laws_FnBars.l0 kq t259 t260 t273 t289 (t289.length : Int) x150_4 = some r) ∧ Aside0 (kq ≤ kj140) ∧ Aside0 (Kd.R (Kd.int .i64) 3 w' w.heap.size (fun k_ => some k_ ≠ ((.slice Ao150 t289.length co150) : Value).ownBlock) (.slice Ao11 t260.length co11) t260) ∧ Aside0 (Kd.R (Kd.int .i64) 3 w' w.heap.size (fun k_ => some k_ ≠ ((.slice Ao11 t260.length co11) : Value).ownBlock) (.slice Ao150 t289.length co150) t289) ∧ Aside0 (Below w.heap.size w w'))
                      case atStart => exact ⟨(0), (by first | rfl | (simp; done) | (simp [*]; done)), H', ⟨Nat.le_refl _⟩, ⟨by (with_reducible repeat (first | apply Kd.R_alloc | apply Kd.R_drewN | apply Kd.R_drew)); exact HO_4.out⟩, ⟨by (with_reducible repeat (first | apply Kd.R_alloc | apply Kd.R_drewN | apply Kd.R_drew)); exact HO_11.out⟩, ⟨by repeat (first | (with_reducible first | exact HB.out | apply below_alloc | apply pw_below_drewN | apply below_drew1) | exact HB.out)⟩⟩
                      case round =>
                        clear H'
                        try clear c1
                        try clear c2
                        try clear c2b0
                        try clear c2b1
                        try clear p2
                        try clear c3
                        try clear c4
                        try clear c5
                        try clear c6
                        try clear p6
                        try clear c12
                        try clear c13
                        try clear c14
                        try clear c17
                        try clear c19
                        try clear c21
                        try clear c23
                        try clear c25
                        try clear c27
                        try clear c27b0
                        try clear c27b1
                        try clear c28
                        try clear c28b0
                        try clear c29
                        try clear c30
                        try clear c31
                        try clear c32
                        try clear c38
                        try clear c38b0
                        try clear c49
                        try clear c49b0
                        try clear c61
                        try clear c63
                        try clear c63b0
                        try clear c63b1
                        try clear p64
                        try clear c124
                        try clear c126
                        try clear c126b0
                        try clear c126b1
                        try clear c128
                        try clear c128b0
                        try clear c139
                        try clear c144
                        try clear c144b0
                        try clear c144b1
                        try clear c149
                        try clear p2
                        try clear p6
                        try clear p64
                        obtain ⟨x150_4, rfl, HA, HK4, HO_4, HO_11, HB⟩ := hrel
                        cases gk with
                        | zero => exact absurd HA.out (by simp [laws_FnBars.l0])
                        | succ k4 =>
                          have H := HA.out
                          clear HA
                          simp only [laws_FnBars.l0] at H
                          by_cases c151 : x150_4 < (t289.length : Int)
                          · rw [if_pos c151] at H
                            have c151b0 : decide (x150_4 < (t289.length : Int)) = true := decide_eq_true c151
                            clear c151
                            by_cases c152 : 0 ≤ x150_4
                            · rw [if_pos c152] at H
                              have c152b0 : decide (0 ≤ x150_4) = true := decide_eq_true c152
                              clear c152
                              by_cases c153 : x150_4 < (t289.length : Int)
                              · rw [if_pos c153] at H
                                have c153b0 : decide (x150_4 < (t289.length : Int)) = true := decide_eq_true c153
                                clear c153
                                by_cases c154 : (rd t289 x150_4) < 0
                                · rw [if_pos c154] at H
                                  exact (laws_FnBars.no_false HT H).elim
                                · rw [if_neg c154] at H
                                  have c154b0 : decide ((rd t289 x150_4) < 0) = false := decide_eq_false c154
                                  clear c154
                                  by_cases c155 : (rd t289 x150_4) ≥ t259
                                  · rw [if_pos c155] at H
                                    exact (laws_FnBars.no_false HT H).elim
                                  · rw [if_neg c155] at H
                                    have c155b0 : decide (t259 ≤ (rd t289 x150_4)) = false := decide_eq_false c155
                                    clear c155
                                    have H' := Aside0.mk H
                                    clear H
                                    have p294 : 0 ≤ (x150_4 : Int) := of_decide_eq_true (by first | (with_reducible assumption) | assumption)
                                    have q294 : x150_4 < (t289.length : Int) := of_decide_eq_true (by first | (with_reducible assumption) | assumption)
                                    obtain ⟨ad294, e294, hx294_0⟩ := Kd.at_int (Kd.R_reads' HO_11.out).2.2 x150_4 p294 q294
                                    cases e294
                                    replace p294 := eq_true p294
                                    replace q294 := eq_true q294
                                    go_wp2
                                    go_roundg k4
                                    case measure => have := HJ8.out; have := HJ124.out; have := HJ140.out; have := HK4.out; omega
                                    case rel => exact ⟨(wrap64 (x150_4 + 1)), (by first | rfl | (simp; done) | (simp [*]; done)), H', ⟨by have := HJ8.out; have := HJ124.out; have := HJ140.out; have := HK4.out; omega⟩, ⟨by (with_reducible repeat (first | apply Kd.R_alloc | apply Kd.R_drewN | apply Kd.R_drew)); exact HO_4.out⟩, ⟨by (with_reducible repeat (first | apply Kd.R_alloc | apply Kd.R_drewN | apply Kd.R_drew)); exact HO_11.out⟩, ⟨by repeat (first | (with_reducible first | exact HB.out | apply below_alloc | apply pw_below_drewN | apply below_drew1) | exact HB.out)⟩⟩
                              · rw [if_neg c153] at H
                                exact absurd H (by simp)
                            · rw [if_neg c152] at H
                              exact absurd H (by simp)
                          · rw [if_neg c151] at H
                            have c151b0 : decide (x150_4 < (t289.length : Int)) = false := decide_eq_false c151
                            clear c151
                            replace H := Option.bind_eq_some_iff.mp H
                            obtain ⟨t295, A1560, H⟩ := H
                            replace H : (if t295 = 0 then (some (((t260.length : Int) == 0) == (t273 == 0))) else (some false)) = some r := H
                            have A156 := Aside0.mk A1560
                            clear A1560
                            by_cases c157 : t295 = 0
                            · rw [if_pos c157] at H
                              have c157b0 : (t295 == 0) = true := beq_iff_eq.mpr c157
                              have c157b1 : (t295 != 0) = false := bne_eq_false_iff_eq.mpr c157
                              clear c157
                              obtain rfl := Option.some.inj H
                              go_wp2_with (first | ((with_reducible refine gate_callee (f := 35) rfl ?_); refine goesL_ (some 162) rfl rfl Try.func35 (by kernel_rfl) rfl #[.slice none 0 0] rfl (by (try simp only [List.map_toArray, List.map_cons, List.map_nil]); first | done | rfl | (simp only [List.length_drop, List.length_take]; rfl)) ?_; (refine (impl_CountBars.calls k4 _ _ ([] : List Int) t295 _ ?side1 ?side2 A156.out).mono ?_); (case side1 => exact Kd.C_nil _ _); (case side2 => exact Nat.le_refl _); rintro e w158 ⟨rfl, hb⟩; refine ⟨_, rfl, ?_⟩; have n0_ := Aside0.mk (Kd.R_below (by (with_reducible repeat (first | apply Kd.R_alloc | apply Kd.R_drewN | apply Kd.R_drew)); exact HO_4.out) hb); have n1_ := Aside0.mk (Kd.R_below (by (with_reducible repeat (first | apply Kd.R_alloc | apply Kd.R_drewN | apply Kd.R_drew)); exact HO_11.out) hb); have n2_ := Aside0.mk (below_step (by repeat (first | (with_reducible first | exact HB.out | apply below_alloc | apply pw_below_drewN | apply below_drew1) | exact HB.out)) hb); clear HO_4; clear HO_11; clear HB; have HO_4 := n0_; have HO_11 := n1_; have HB := n2_; clear n0_ n1_ n2_; (try clear hb); (try clear hb2); (try clear hk); (try clear hi)))
                              go_ret
                              exact ⟨by first | rfl | (simp [errW_none, errW_some] <;> rfl) | (simp [*, errW_none, errW_some] <;> rfl), by repeat (first | (with_reducible first | exact HB.out | apply below_alloc | apply pw_below_drewN | apply below_drew1) | exact HB.out)⟩
                            · rw [if_neg c157] at H
                              exact (laws_FnBars.no_false HT H).elim/-- THE ONE PLAIN STATEMENT of laws_FnBars. -/
def laws_FnBars.Pure : Prop := ∀ (l0 : List Int), l0.length ≤ maxLen → l0.length * 1 ≤ 140737488351232 → (∀ x ∈ l0, (Lit.int .u8 x).wf = true) → ∃ k, laws_FnBars.f k l0 = some true
theorem laws_FnBars.walk (P : laws_FnBars.Pure) (A0 : Option Addr) (c0 : Nat) (l0 : List Int) (w : World) (hr0 : Kd.C (Kd.int .u8) w A0 l0.length l0) (hc0 : l0.length ≤ c0) (hm0 : l0.length ≤ maxLen) (y0 : l0.length * 1 ≤ 140737488351232) (hw0 : (∀ x ∈ l0, (Lit.int .u8 x).wf = true)) :
    Calls Try.prog 5 #[.slice A0 l0.length c0] w fun e w' => e = .returned (.bool true) ∧ Below w.heap.size w w' := by
  obtain ⟨k, h⟩ := P l0 hm0 y0 hw0
  refine (laws_FnBars.calls k _ _ l0 true w hr0 hc0 h rfl).mono ?_
  rintro e w' ⟨rfl, hd⟩
  exact ⟨rfl, hd⟩

end Go.Proofs.Ytadloeklhjoohaa.XFnBars
