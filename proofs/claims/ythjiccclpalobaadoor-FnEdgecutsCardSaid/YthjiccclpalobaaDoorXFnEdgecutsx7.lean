/- What functions of the program compute, as plain Lean functions, and that Go's calls come to just that: written by wip/tools/xprint.py for the law FnEdgecuts. -/
import Derived.Test.YthjiccclpalobaaDoorXFnEdgecutsx0
import Derived.Test.YthjiccclpalobaaDoorXFnEdgecutsx1
import Derived.Test.YthjiccclpalobaaDoorXFnEdgecutsx2
import Derived.Test.YthjiccclpalobaaDoorXFnEdgecutsx3
import Derived.Test.YthjiccclpalobaaDoorXFnEdgecutsx4
import Derived.Test.YthjiccclpalobaaDoorXFnEdgecutsx5
import Derived.Test.YthjiccclpalobaaDoorXFnEdgecutsx6
namespace Go.Proofs.YthjiccclpalobaaDoor.XFnEdgecuts
open Go.RowKit Go.Proofs.YthjiccclpalobaaDoorW.PrintWords Go.Proofs.YthjiccclpalobaaDoorW.PrintLast Go.Proofs.YthjiccclpalobaaDoorW.PrintMore
attribute [local go_sem] max2_int min2_int max_two min_two max_three min_three max_four min_four   -- for this text's walks alone
set_option linter.unusedVariables false
set_option linter.unusedSimpArgs false

/-! ### laws_FnEdgecuts: function 3 -/
theorem laws_FnEdgecuts.yield_undef (f : Bool → Option Bool) (g : Option Value → Option Bool) : Go.yielded.match_1 (fun _ => Option Bool) (some undef) f g = g (some undef) := rfl
attribute [local go_sem] laws_FnEdgecuts.yield_undef
mutual
def laws_FnEdgecuts.j0 : Nat → List Int → Int → Int → List (List Int) → Int → ByteArray → Bool → Option (Bool)
  | 0, _, _, _, _, _, _, _ => none
  | k + 1, x0, x3, x4, x5, x6, x7, x77 => if x77 = true then (some false) else ((impl_WareCounts.f k x5 x7).bind fun t209 => (laws_FnEdgecuts.l0 k x0 x3 x4 x5 x6 x7 t209 0 0 (x5.length : Int) 0))
def laws_FnEdgecuts.l0 : Nat → List Int → Int → Int → List (List Int) → Int → ByteArray → List Int → Int → Int → Int → Int → Option (Bool)
  | 0, _, _, _, _, _, _, _, _, _, _, _ => none
  | k + 1, x0, x3, x4, x5, x6, x7, x8, x9, x10, x82, x83 => if x83 < x82 then (if 0 ≤ x83 then (if x83 < (x5.length : Int) then (if x83 ≥ (x8.length : Int) then (some false) else (if x83 < (x8.length : Int) then (if 2 < ((rd_L2 x5 x83).length : Int) then (if 0 < ((rd_L2 x5 x83).length : Int) then (if 1 < ((rd_L2 x5 x83).length : Int) then (if (rd (rd_L2 x5 x83) 0) ≤ x3 then (if (rd (rd_L2 x5 x83) 1) ≤ x4 then (if x6 < (rd (rd_L2 x5 x83) 2) then (some false) else (laws_FnEdgecuts.l0 k x0 x3 x4 x5 x6 x7 x8 (wrap64 (x9 + (wrap64 ((rd x8 x83) * (rd (rd_L2 x5 x83) 2))))) (wrap64 (x10 + (wrap64 ((wrap64 ((rd x8 x83) * (rd (rd_L2 x5 x83) 0))) * (rd (rd_L2 x5 x83) 1))))) x82 (wrap64 (x83 + 1)))) else (laws_FnEdgecuts.l0 k x0 x3 x4 x5 x6 x7 x8 (wrap64 (x9 + (wrap64 ((rd x8 x83) * (rd (rd_L2 x5 x83) 2))))) (wrap64 (x10 + (wrap64 ((wrap64 ((rd x8 x83) * (rd (rd_L2 x5 x83) 0))) * (rd (rd_L2 x5 x83) 1))))) x82 (wrap64 (x83 + 1)))) else (laws_FnEdgecuts.l0 k x0 x3 x4 x5 x6 x7 x8 (wrap64 (x9 + (wrap64 ((rd x8 x83) * (rd (rd_L2 x5 x83) 2))))) (wrap64 (x10 + (wrap64 ((wrap64 ((rd x8 x83) * (rd (rd_L2 x5 x83) 0))) * (rd (rd_L2 x5 x83) 1))))) x82 (wrap64 (x83 + 1)))) else (none)) else (none)) else (none)) else (none))) else (none)) else (none)) else (if x9 = x6 then (if x10 > (wrap64 (x3 * x4)) then (laws_FnEdgecuts.j2 k x0 x3 x4 x5 x6 x7 true) else (laws_FnEdgecuts.j2 k x0 x3 x4 x5 x6 x7 ((x8.length : Int) != (x5.length : Int)))) else (laws_FnEdgecuts.j2 k x0 x3 x4 x5 x6 x7 true))
def laws_FnEdgecuts.j2 : Nat → List Int → Int → Int → List (List Int) → Int → ByteArray → Bool → Option (Bool)
  | 0, _, _, _, _, _, _, _ => none
  | k + 1, x0, x3, x4, x5, x6, x7, x152 => if x152 = true then (some false) else (laws_FnEdgecuts.l1 k x0 x3 x4 x5 x6 x7 (([] : List (List Int))) (x5.length : Int) 0)
def laws_FnEdgecuts.l1 : Nat → List Int → Int → Int → List (List Int) → Int → ByteArray → List (List Int) → Int → Int → Option (Bool)
  | 0, _, _, _, _, _, _, _, _, _ => none
  | k + 1, x0, x3, x4, x5, x6, x7, x13, x155, x156 => if x156 < x155 then (if 0 ≤ x156 then (if x156 < (x5.length : Int) then (if 1 < ((rd_L2 x5 x156).length : Int) then (if 0 < ((rd_L2 x5 x156).length : Int) then (if 2 < ((rd_L2 x5 x156).length : Int) then (if x13.length < 5864062014805 then (laws_FnEdgecuts.l1 k x0 x3 x4 x5 x6 x7 (x13 ++ [(([rd (rd_L2 x5 x156) 1, rd (rd_L2 x5 x156) 0, rd (rd_L2 x5 x156) 2] : List Int))]) x155 (wrap64 (x156 + 1))) else (none)) else (none)) else (none)) else (none)) else (none)) else (none)) else ((spec_MakeSize.f k x0 40 1 7).bind fun t234 => ((impl_BestValue.f k x4 x3 x13).bind fun t235 => (if t235 = x6 then ((impl_CountCutsOf.f x7).bind fun t236 => (if t236 < 0 then (laws_FnEdgecuts.j4 k x3 x4 x5 x6 t234 true) else ((impl_CountCutsOf.f x7).bind fun t237 => (laws_FnEdgecuts.j4 k x3 x4 x5 x6 t234 (decide (t237 > (wrap64 ((wrap64 (2 * x3)) * x4)))))))) else (laws_FnEdgecuts.j4 k x3 x4 x5 x6 t234 true))))
def laws_FnEdgecuts.j4 : Nat → Int → Int → List (List Int) → Int → Int → Bool → Option (Bool)
  | 0, _, _, _, _, _, _ => none
  | k + 1, x3, x4, x5, x6, x16, x195 => if x195 = true then (some false) else (if x16 < x3 then ((impl_BestValue.f k x16 x4 x5).bind fun t238 => ((impl_BestValue.f k (wrap64 (x3 - x16)) x4 x5).bind fun t239 => (if (wrap64 (t238 + t239)) > x6 then (laws_FnEdgecuts.j5 k x3 x4 x5 true) else (if x16 < x4 then ((impl_BestValue.f k x3 x16 x5).bind fun t240 => ((impl_BestValue.f k x3 (wrap64 (x4 - x16)) x5).bind fun t241 => (laws_FnEdgecuts.j5 k x3 x4 x5 (decide ((wrap64 (t240 + t241)) > x6))))) else (laws_FnEdgecuts.j5 k x3 x4 x5 false))))) else (if x16 < x4 then ((impl_BestValue.f k x3 x16 x5).bind fun t242 => ((impl_BestValue.f k x3 (wrap64 (x4 - x16)) x5).bind fun t243 => (laws_FnEdgecuts.j5 k x3 x4 x5 (decide ((wrap64 (t242 + t243)) > x6))))) else (laws_FnEdgecuts.j5 k x3 x4 x5 false)))
def laws_FnEdgecuts.j5 : Nat → Int → Int → List (List Int) → Bool → Option (Bool)
  | 0, _, _, _, _ => none
  | k + 1, x3, x4, x5, x233 => if x233 = true then (some false) else ((impl_PlanValue.f k x3 x4 x5 (⟨#[46]⟩ : ByteArray)).bind fun t244 => (if t244 = 0 then ((impl_BestValue.f k x3 x4 ([] : List (List Int))).bind fun t245 => (some (t245 == 0))) else (some false)))
end
def laws_FnEdgecuts.f (k : Nat) (l0 : List Int) : Option (Bool) := if (l0.length : Int) > 1048576 then (some true) else ((spec_MakePlate.f k l0 0).bind fun bt198 => ((impl_BestValue.f k bt198.1 bt198.2.1 bt198.2.2).bind fun t203 => ((impl_BestPlan.f k bt198.1 bt198.2.1 bt198.2.2).bind fun t204 => ((impl_WaresOk.f bt198.2.2).bind fun t205 => (if t205 = true then (if t203 < 0 then (laws_FnEdgecuts.j0 k l0 bt198.1 bt198.2.1 bt198.2.2 t203 t204 true) else (if t204.toList = ([] : List UInt8) then (laws_FnEdgecuts.j0 k l0 bt198.1 bt198.2.1 bt198.2.2 t203 t204 true) else ((impl_PlanValue.f k bt198.1 bt198.2.1 bt198.2.2 t204).bind fun t206 => (if t206 = t203 then ((impl_AreaBound.f k bt198.1 bt198.2.1 bt198.2.2).bind fun t207 => (if t207 < t203 then (laws_FnEdgecuts.j0 k l0 bt198.1 bt198.2.1 bt198.2.2 t203 t204 true) else (if ((t204.toList == ([46] : List UInt8)) != (t203 == 0)) = true then (laws_FnEdgecuts.j0 k l0 bt198.1 bt198.2.1 bt198.2.2 t203 t204 true) else (if t204.size + 1 ≤ 9223372036854775807 then ((impl_PlanValue.f k bt198.1 bt198.2.1 bt198.2.2 (t204 ++ (⟨#[46]⟩ : ByteArray))).bind fun t208 => (laws_FnEdgecuts.j0 k l0 bt198.1 bt198.2.1 bt198.2.2 t203 t204 (t208 != (-1)))) else (none))))) else (laws_FnEdgecuts.j0 k l0 bt198.1 bt198.2.1 bt198.2.2 t203 t204 true))))) else (laws_FnEdgecuts.j0 k l0 bt198.1 bt198.2.1 bt198.2.2 t203 t204 true))))))
theorem laws_FnEdgecuts.mono_l : ∀ k, (∀ y0 y1 y2 y3 y4 y5 y6, LeO (laws_FnEdgecuts.j0 k y0 y1 y2 y3 y4 y5 y6) (laws_FnEdgecuts.j0 (k + 1) y0 y1 y2 y3 y4 y5 y6)) ∧ (∀ y0 y1 y2 y3 y4 y5 y6 y7 y8 y9 y10, LeO (laws_FnEdgecuts.l0 k y0 y1 y2 y3 y4 y5 y6 y7 y8 y9 y10) (laws_FnEdgecuts.l0 (k + 1) y0 y1 y2 y3 y4 y5 y6 y7 y8 y9 y10)) ∧ (∀ y0 y1 y2 y3 y4 y5 y6, LeO (laws_FnEdgecuts.j2 k y0 y1 y2 y3 y4 y5 y6) (laws_FnEdgecuts.j2 (k + 1) y0 y1 y2 y3 y4 y5 y6)) ∧ (∀ y0 y1 y2 y3 y4 y5 y6 y7 y8, LeO (laws_FnEdgecuts.l1 k y0 y1 y2 y3 y4 y5 y6 y7 y8) (laws_FnEdgecuts.l1 (k + 1) y0 y1 y2 y3 y4 y5 y6 y7 y8)) ∧ (∀ y0 y1 y2 y3 y4 y5, LeO (laws_FnEdgecuts.j4 k y0 y1 y2 y3 y4 y5) (laws_FnEdgecuts.j4 (k + 1) y0 y1 y2 y3 y4 y5)) ∧ (∀ y0 y1 y2 y3, LeO (laws_FnEdgecuts.j5 k y0 y1 y2 y3) (laws_FnEdgecuts.j5 (k + 1) y0 y1 y2 y3))
  | 0 => ⟨fun _ _ _ _ _ _ _ r h => by simp [laws_FnEdgecuts.j0] at h, fun _ _ _ _ _ _ _ _ _ _ _ r h => by simp [laws_FnEdgecuts.l0] at h, fun _ _ _ _ _ _ _ r h => by simp [laws_FnEdgecuts.j2] at h, fun _ _ _ _ _ _ _ _ _ r h => by simp [laws_FnEdgecuts.l1] at h, fun _ _ _ _ _ _ r h => by simp [laws_FnEdgecuts.j4] at h, fun _ _ _ _ r h => by simp [laws_FnEdgecuts.j5] at h⟩
  | k + 1 => by
    obtain ⟨ih0, ih1, ih2, ih3, ih4, ih5⟩ := laws_FnEdgecuts.mono_l k
    refine ⟨?_, ?_, ?_, ?_, ?_, ?_⟩
    · intro y0 y1 y2 y3 y4 y5 y6
      unfold laws_FnEdgecuts.j0
      repeat' first
      | (with_reducible exact ih0 _ _ _ _ _ _ _)
      | (with_reducible exact ih1 _ _ _ _ _ _ _ _ _ _ _)
      | (with_reducible exact ih2 _ _ _ _ _ _ _)
      | (with_reducible exact ih3 _ _ _ _ _ _ _ _ _)
      | (with_reducible exact ih4 _ _ _ _ _ _)
      | (with_reducible exact ih5 _ _ _ _)
      | (with_reducible exact impl_AreaBound.mono _ _ _ _)
      | (with_reducible exact impl_BestPlan.mono _ _ _ _)
      | (with_reducible exact impl_BestValue.mono _ _ _ _)
      | (with_reducible exact impl_PlanValue.mono _ _ _ _ _)
      | (with_reducible exact impl_WareCounts.mono _ _ _)
      | (with_reducible exact spec_MakePlate.mono _ _ _)
      | (with_reducible exact spec_MakeSize.mono _ _ _ _ _)
      | (with_reducible exact LeO.refl _)
      | (with_reducible exact LeO.none _)
      | (with_reducible refine LeO.ite ?_ ?_)
      | (with_reducible refine LeO.bind ?_ (fun _ => ?_))
      | exact ih0 _ _ _ _ _ _ _
      | exact ih1 _ _ _ _ _ _ _ _ _ _ _
      | exact ih2 _ _ _ _ _ _ _
      | exact ih3 _ _ _ _ _ _ _ _ _
      | exact ih4 _ _ _ _ _ _
      | exact ih5 _ _ _ _
      | exact impl_AreaBound.mono _ _ _ _
      | exact impl_BestPlan.mono _ _ _ _
      | exact impl_BestValue.mono _ _ _ _
      | exact impl_PlanValue.mono _ _ _ _ _
      | exact impl_WareCounts.mono _ _ _
      | exact spec_MakePlate.mono _ _ _
      | exact spec_MakeSize.mono _ _ _ _ _
      | exact LeO.none _
      | refine LeO.ite ?_ ?_
      | refine LeO.bind ?_ (fun _ => ?_)
    · intro y0 y1 y2 y3 y4 y5 y6 y7 y8 y9 y10
      unfold laws_FnEdgecuts.l0
      repeat' first
      | (with_reducible exact ih0 _ _ _ _ _ _ _)
      | (with_reducible exact ih1 _ _ _ _ _ _ _ _ _ _ _)
      | (with_reducible exact ih2 _ _ _ _ _ _ _)
      | (with_reducible exact ih3 _ _ _ _ _ _ _ _ _)
      | (with_reducible exact ih4 _ _ _ _ _ _)
      | (with_reducible exact ih5 _ _ _ _)
      | (with_reducible exact impl_AreaBound.mono _ _ _ _)
      | (with_reducible exact impl_BestPlan.mono _ _ _ _)
      | (with_reducible exact impl_BestValue.mono _ _ _ _)
      | (with_reducible exact impl_PlanValue.mono _ _ _ _ _)
      | (with_reducible exact impl_WareCounts.mono _ _ _)
      | (with_reducible exact spec_MakePlate.mono _ _ _)
      | (with_reducible exact spec_MakeSize.mono _ _ _ _ _)
      | (with_reducible exact LeO.refl _)
      | (with_reducible exact LeO.none _)
      | (with_reducible refine LeO.ite ?_ ?_)
      | (with_reducible refine LeO.bind ?_ (fun _ => ?_))
      | exact ih0 _ _ _ _ _ _ _
      | exact ih1 _ _ _ _ _ _ _ _ _ _ _
      | exact ih2 _ _ _ _ _ _ _
      | exact ih3 _ _ _ _ _ _ _ _ _
      | exact ih4 _ _ _ _ _ _
      | exact ih5 _ _ _ _
      | exact impl_AreaBound.mono _ _ _ _
      | exact impl_BestPlan.mono _ _ _ _
      | exact impl_BestValue.mono _ _ _ _
      | exact impl_PlanValue.mono _ _ _ _ _
      | exact impl_WareCounts.mono _ _ _
      | exact spec_MakePlate.mono _ _ _
      | exact spec_MakeSize.mono _ _ _ _ _
      | exact LeO.none _
      | refine LeO.ite ?_ ?_
      | refine LeO.bind ?_ (fun _ => ?_)
    · intro y0 y1 y2 y3 y4 y5 y6
      unfold laws_FnEdgecuts.j2
      repeat' first
      | (with_reducible exact ih0 _ _ _ _ _ _ _)
      | (with_reducible exact ih1 _ _ _ _ _ _ _ _ _ _ _)
      | (with_reducible exact ih2 _ _ _ _ _ _ _)
      | (with_reducible exact ih3 _ _ _ _ _ _ _ _ _)
      | (with_reducible exact ih4 _ _ _ _ _ _)
      | (with_reducible exact ih5 _ _ _ _)
      | (with_reducible exact impl_AreaBound.mono _ _ _ _)
      | (with_reducible exact impl_BestPlan.mono _ _ _ _)
      | (with_reducible exact impl_BestValue.mono _ _ _ _)
      | (with_reducible exact impl_PlanValue.mono _ _ _ _ _)
      | (with_reducible exact impl_WareCounts.mono _ _ _)
      | (with_reducible exact spec_MakePlate.mono _ _ _)
      | (with_reducible exact spec_MakeSize.mono _ _ _ _ _)
      | (with_reducible exact LeO.refl _)
      | (with_reducible exact LeO.none _)
      | (with_reducible refine LeO.ite ?_ ?_)
      | (with_reducible refine LeO.bind ?_ (fun _ => ?_))
      | exact ih0 _ _ _ _ _ _ _
      | exact ih1 _ _ _ _ _ _ _ _ _ _ _
      | exact ih2 _ _ _ _ _ _ _
      | exact ih3 _ _ _ _ _ _ _ _ _
      | exact ih4 _ _ _ _ _ _
      | exact ih5 _ _ _ _
      | exact impl_AreaBound.mono _ _ _ _
      | exact impl_BestPlan.mono _ _ _ _
      | exact impl_BestValue.mono _ _ _ _
      | exact impl_PlanValue.mono _ _ _ _ _
      | exact impl_WareCounts.mono _ _ _
      | exact spec_MakePlate.mono _ _ _
      | exact spec_MakeSize.mono _ _ _ _ _
      | exact LeO.none _
      | refine LeO.ite ?_ ?_
      | refine LeO.bind ?_ (fun _ => ?_)
    · intro y0 y1 y2 y3 y4 y5 y6 y7 y8
      unfold laws_FnEdgecuts.l1
      repeat' first
      | (with_reducible exact ih0 _ _ _ _ _ _ _)
      | (with_reducible exact ih1 _ _ _ _ _ _ _ _ _ _ _)
      | (with_reducible exact ih2 _ _ _ _ _ _ _)
      | (with_reducible exact ih3 _ _ _ _ _ _ _ _ _)
      | (with_reducible exact ih4 _ _ _ _ _ _)
      | (with_reducible exact ih5 _ _ _ _)
      | (with_reducible exact impl_AreaBound.mono _ _ _ _)
      | (with_reducible exact impl_BestPlan.mono _ _ _ _)
      | (with_reducible exact impl_BestValue.mono _ _ _ _)
      | (with_reducible exact impl_PlanValue.mono _ _ _ _ _)
      | (with_reducible exact impl_WareCounts.mono _ _ _)
      | (with_reducible exact spec_MakePlate.mono _ _ _)
      | (with_reducible exact spec_MakeSize.mono _ _ _ _ _)
      | (with_reducible exact LeO.refl _)
      | (with_reducible exact LeO.none _)
      | (with_reducible refine LeO.ite ?_ ?_)
      | (with_reducible refine LeO.bind ?_ (fun _ => ?_))
      | exact ih0 _ _ _ _ _ _ _
      | exact ih1 _ _ _ _ _ _ _ _ _ _ _
      | exact ih2 _ _ _ _ _ _ _
      | exact ih3 _ _ _ _ _ _ _ _ _
      | exact ih4 _ _ _ _ _ _
      | exact ih5 _ _ _ _
      | exact impl_AreaBound.mono _ _ _ _
      | exact impl_BestPlan.mono _ _ _ _
      | exact impl_BestValue.mono _ _ _ _
      | exact impl_PlanValue.mono _ _ _ _ _
      | exact impl_WareCounts.mono _ _ _
      | exact spec_MakePlate.mono _ _ _
      | exact spec_MakeSize.mono _ _ _ _ _
      | exact LeO.none _
      | refine LeO.ite ?_ ?_
      | refine LeO.bind ?_ (fun _ => ?_)
    · intro y0 y1 y2 y3 y4 y5
      unfold laws_FnEdgecuts.j4
      repeat' first
      | (with_reducible exact ih0 _ _ _ _ _ _ _)
      | (with_reducible exact ih1 _ _ _ _ _ _ _ _ _ _ _)
      | (with_reducible exact ih2 _ _ _ _ _ _ _)
      | (with_reducible exact ih3 _ _ _ _ _ _ _ _ _)
      | (with_reducible exact ih4 _ _ _ _ _ _)
      | (with_reducible exact ih5 _ _ _ _)
      | (with_reducible exact impl_AreaBound.mono _ _ _ _)
      | (with_reducible exact impl_BestPlan.mono _ _ _ _)
      | (with_reducible exact impl_BestValue.mono _ _ _ _)
      | (with_reducible exact impl_PlanValue.mono _ _ _ _ _)
      | (with_reducible exact impl_WareCounts.mono _ _ _)
      | (with_reducible exact spec_MakePlate.mono _ _ _)
      | (with_reducible exact spec_MakeSize.mono _ _ _ _ _)
      | (with_reducible exact LeO.refl _)
      | (with_reducible exact LeO.none _)
      | (with_reducible refine LeO.ite ?_ ?_)
      | (with_reducible refine LeO.bind ?_ (fun _ => ?_))
      | exact ih0 _ _ _ _ _ _ _
      | exact ih1 _ _ _ _ _ _ _ _ _ _ _
      | exact ih2 _ _ _ _ _ _ _
      | exact ih3 _ _ _ _ _ _ _ _ _
      | exact ih4 _ _ _ _ _ _
      | exact ih5 _ _ _ _
      | exact impl_AreaBound.mono _ _ _ _
      | exact impl_BestPlan.mono _ _ _ _
      | exact impl_BestValue.mono _ _ _ _
      | exact impl_PlanValue.mono _ _ _ _ _
      | exact impl_WareCounts.mono _ _ _
      | exact spec_MakePlate.mono _ _ _
      | exact spec_MakeSize.mono _ _ _ _ _
      | exact LeO.none _
      | refine LeO.ite ?_ ?_
      | refine LeO.bind ?_ (fun _ => ?_)
    · intro y0 y1 y2 y3
      unfold laws_FnEdgecuts.j5
      repeat' first
      | (with_reducible exact ih0 _ _ _ _ _ _ _)
      | (with_reducible exact ih1 _ _ _ _ _ _ _ _ _ _ _)
      | (with_reducible exact ih2 _ _ _ _ _ _ _)
      | (with_reducible exact ih3 _ _ _ _ _ _ _ _ _)
      | (with_reducible exact ih4 _ _ _ _ _ _)
      | (with_reducible exact ih5 _ _ _ _)
      | (with_reducible exact impl_AreaBound.mono _ _ _ _)
      | (with_reducible exact impl_BestPlan.mono _ _ _ _)
      | (with_reducible exact impl_BestValue.mono _ _ _ _)
      | (with_reducible exact impl_PlanValue.mono _ _ _ _ _)
      | (with_reducible exact impl_WareCounts.mono _ _ _)
      | (with_reducible exact spec_MakePlate.mono _ _ _)
      | (with_reducible exact spec_MakeSize.mono _ _ _ _ _)
      | (with_reducible exact LeO.refl _)
      | (with_reducible exact LeO.none _)
      | (with_reducible refine LeO.ite ?_ ?_)
      | (with_reducible refine LeO.bind ?_ (fun _ => ?_))
      | exact ih0 _ _ _ _ _ _ _
      | exact ih1 _ _ _ _ _ _ _ _ _ _ _
      | exact ih2 _ _ _ _ _ _ _
      | exact ih3 _ _ _ _ _ _ _ _ _
      | exact ih4 _ _ _ _ _ _
      | exact ih5 _ _ _ _
      | exact impl_AreaBound.mono _ _ _ _
      | exact impl_BestPlan.mono _ _ _ _
      | exact impl_BestValue.mono _ _ _ _
      | exact impl_PlanValue.mono _ _ _ _ _
      | exact impl_WareCounts.mono _ _ _
      | exact spec_MakePlate.mono _ _ _
      | exact spec_MakeSize.mono _ _ _ _ _
      | exact LeO.none _
      | refine LeO.ite ?_ ?_
      | refine LeO.bind ?_ (fun _ => ?_)
theorem laws_FnEdgecuts.mono : ∀ a0 k, LeO (laws_FnEdgecuts.f k a0) (laws_FnEdgecuts.f (k + 1) a0) := by
  intro a0 k
  obtain ⟨ih0, ih1, ih2, ih3, ih4, ih5⟩ := laws_FnEdgecuts.mono_l k
  unfold laws_FnEdgecuts.f
  repeat' first
      | (with_reducible exact ih0 _ _ _ _ _ _ _)
      | (with_reducible exact ih1 _ _ _ _ _ _ _ _ _ _ _)
      | (with_reducible exact ih2 _ _ _ _ _ _ _)
      | (with_reducible exact ih3 _ _ _ _ _ _ _ _ _)
      | (with_reducible exact ih4 _ _ _ _ _ _)
      | (with_reducible exact ih5 _ _ _ _)
      | (with_reducible exact impl_AreaBound.mono _ _ _ _)
      | (with_reducible exact impl_BestPlan.mono _ _ _ _)
      | (with_reducible exact impl_BestValue.mono _ _ _ _)
      | (with_reducible exact impl_PlanValue.mono _ _ _ _ _)
      | (with_reducible exact impl_WareCounts.mono _ _ _)
      | (with_reducible exact spec_MakePlate.mono _ _ _)
      | (with_reducible exact spec_MakeSize.mono _ _ _ _ _)
      | (with_reducible exact LeO.refl _)
      | (with_reducible exact LeO.none _)
      | (with_reducible refine LeO.ite ?_ ?_)
      | (with_reducible refine LeO.bind ?_ (fun _ => ?_))
      | exact ih0 _ _ _ _ _ _ _
      | exact ih1 _ _ _ _ _ _ _ _ _ _ _
      | exact ih2 _ _ _ _ _ _ _
      | exact ih3 _ _ _ _ _ _ _ _ _
      | exact ih4 _ _ _ _ _ _
      | exact ih5 _ _ _ _
      | exact impl_AreaBound.mono _ _ _ _
      | exact impl_BestPlan.mono _ _ _ _
      | exact impl_BestValue.mono _ _ _ _
      | exact impl_PlanValue.mono _ _ _ _ _
      | exact impl_WareCounts.mono _ _ _
      | exact spec_MakePlate.mono _ _ _
      | exact spec_MakeSize.mono _ _ _ _ _
      | exact LeO.none _
      | refine LeO.ite ?_ ?_
      | refine LeO.bind ?_ (fun _ => ?_)
def laws_FnEdgecuts.T16 : Bool × List (List Nat × List Nat) := (true, [([], []), ([], []), ([], []), ([1, 2], [1, 2]), ([3], [3]), ([], []), ([5], [5]), ([6], [6]), ([4, 7], [4, 7]), ([0, 8], [0, 8]), ([9, 0, 1, 2, 3, 4, 5, 6, 7, 8, 9], [0, 9])])
def laws_FnEdgecuts.B16 : List Nat := [0, 0, 0, 6, 14, 0, 32, 96, 254, 511, 1023]
theorem laws_FnEdgecuts.tab16 : rtab .any (opsOf Tryd.f3 16) = laws_FnEdgecuts.T16 := by kernel_rfl
theorem laws_FnEdgecuts.bits16 : waitsOk laws_FnEdgecuts.T16.2 laws_FnEdgecuts.B16 = true := by kernel_rfl
def laws_FnEdgecuts.T17 : Bool × List (List Nat × List Nat) := (true, [([], []), ([], []), ([], []), ([1, 2], [1, 2]), ([3], [3]), ([], []), ([5], [5]), ([6], [6]), ([4, 7], [4, 7]), ([], []), ([9], [9]), ([10], [10]), ([8, 11], [8, 11]), ([0, 12], [0, 12]), ([13, 0, 1, 2, 3, 4, 5, 6, 7, 8, 9, 10, 11, 12, 13], [0, 13])])
def laws_FnEdgecuts.B17 : List Nat := [0, 0, 0, 6, 14, 0, 32, 96, 254, 0, 512, 1536, 4094, 8191, 16383]
theorem laws_FnEdgecuts.tab17 : rtab .any (opsOf Tryd.f3 17) = laws_FnEdgecuts.T17 := by kernel_rfl
theorem laws_FnEdgecuts.bits17 : waitsOk laws_FnEdgecuts.T17.2 laws_FnEdgecuts.B17 = true := by kernel_rfl
def laws_FnEdgecuts.T27 : Bool × List (List Nat × List Nat) := (true, [([], []), ([], []), ([1], [1]), ([2], [2]), ([], []), ([4], [4]), ([5], [5]), ([], []), ([7], [7]), ([8], [8]), ([3, 6, 9], [3, 6, 9]), ([10], [10]), ([0, 11], [0, 11]), ([12, 12, 0, 1, 2, 3, 4, 5, 6, 7, 8, 9, 10, 11, 12], [0, 12])])
def laws_FnEdgecuts.B27 : List Nat := [0, 0, 2, 6, 0, 16, 48, 0, 128, 384, 1022, 2046, 4095, 8191]
theorem laws_FnEdgecuts.tab27 : rtab .any (opsOf Tryd.f3 27) = laws_FnEdgecuts.T27 := by kernel_rfl
theorem laws_FnEdgecuts.bits27 : waitsOk laws_FnEdgecuts.T27.2 laws_FnEdgecuts.B27 = true := by kernel_rfl
theorem laws_FnEdgecuts.j0_dead {k : Nat} {y0 y1 y2 y3 y4 y5 : _} {r : Bool} (hT : Aside0 (r = true)) (h : laws_FnEdgecuts.j0 k y0 y1 y2 y3 y4 y5 true = some r) : False := by
  have hT := hT.out
  subst hT
  cases k with
  | zero => simp [laws_FnEdgecuts.j0] at h
  | succ k => simp [laws_FnEdgecuts.j0] at h
theorem laws_FnEdgecuts.j2_dead {k : Nat} {y0 y1 y2 y3 y4 y5 : _} {r : Bool} (hT : Aside0 (r = true)) (h : laws_FnEdgecuts.j2 k y0 y1 y2 y3 y4 y5 true = some r) : False := by
  have hT := hT.out
  subst hT
  cases k with
  | zero => simp [laws_FnEdgecuts.j2] at h
  | succ k => simp [laws_FnEdgecuts.j2] at h
theorem laws_FnEdgecuts.j4_dead {k : Nat} {y0 y1 y2 y3 y4 : _} {r : Bool} (hT : Aside0 (r = true)) (h : laws_FnEdgecuts.j4 k y0 y1 y2 y3 y4 true = some r) : False := by
  have hT := hT.out
  subst hT
  cases k with
  | zero => simp [laws_FnEdgecuts.j4] at h
  | succ k => simp [laws_FnEdgecuts.j4] at h
theorem laws_FnEdgecuts.j5_dead {k : Nat} {y0 y1 y2 : _} {r : Bool} (hT : Aside0 (r = true)) (h : laws_FnEdgecuts.j5 k y0 y1 y2 true = some r) : False := by
  have hT := hT.out
  subst hT
  cases k with
  | zero => simp [laws_FnEdgecuts.j5] at h
  | succ k => simp [laws_FnEdgecuts.j5] at h
theorem laws_FnEdgecuts.no_false {r : Bool} (hT : Aside0 (r = true)) (h : some false = some r) : False := by
  have hT := hT.out
  subst hT
  simp at h
def laws_FnEdgecuts.qB (n m : Nat) : Array Bool := ((List.range n).map fun j => m.testBit j).toArray
set_option maxHeartbeats 8000000 in
set_option maxRecDepth 100000 in
theorem laws_FnEdgecuts.calls (k : Nat) (A0 : Option Addr) (c0 : Nat) (l0 : List Int) (r : Bool) (w : World) (hr0 : Kd.C (Kd.int .u8) w A0 l0.length l0) (hc0 : l0.length ≤ c0) (hld : LdW w) (h : laws_FnEdgecuts.f k l0 = some r) (hT_ : r = true) :
    Calls Tryd.prog 3 #[.slice A0 l0.length c0] w fun e w' => e = .returned (.bool r) ∧ Below w.heap.size w w' := by
 have HLD := Aside0.mk hld
 clear hld
 have HT := Aside0.mk hT_
 clear hT_
 have HR0 := Aside0.mk hr0
 have HC0 := Aside0.mk hc0
 clear hr0 hc0
 have HB := Aside0.mk (Below.refl w.heap.size w)
 have H : (if (l0.length : Int) > 1048576 then (some true) else ((spec_MakePlate.f k l0 0).bind fun bt198 => ((impl_BestValue.f k bt198.1 bt198.2.1 bt198.2.2).bind fun t203 => ((impl_BestPlan.f k bt198.1 bt198.2.1 bt198.2.2).bind fun t204 => ((impl_WaresOk.f bt198.2.2).bind fun t205 => (if t205 = true then (if t203 < 0 then (laws_FnEdgecuts.j0 k l0 bt198.1 bt198.2.1 bt198.2.2 t203 t204 true) else (if t204.toList = ([] : List UInt8) then (laws_FnEdgecuts.j0 k l0 bt198.1 bt198.2.1 bt198.2.2 t203 t204 true) else ((impl_PlanValue.f k bt198.1 bt198.2.1 bt198.2.2 t204).bind fun t206 => (if t206 = t203 then ((impl_AreaBound.f k bt198.1 bt198.2.1 bt198.2.2).bind fun t207 => (if t207 < t203 then (laws_FnEdgecuts.j0 k l0 bt198.1 bt198.2.1 bt198.2.2 t203 t204 true) else (if ((t204.toList == ([46] : List UInt8)) != (t203 == 0)) = true then (laws_FnEdgecuts.j0 k l0 bt198.1 bt198.2.1 bt198.2.2 t203 t204 true) else (if t204.size + 1 ≤ 9223372036854775807 then ((impl_PlanValue.f k bt198.1 bt198.2.1 bt198.2.2 (t204 ++ (⟨#[46]⟩ : ByteArray))).bind fun t208 => (laws_FnEdgecuts.j0 k l0 bt198.1 bt198.2.1 bt198.2.2 t203 t204 (t208 != (-1)))) else (none))))) else (laws_FnEdgecuts.j0 k l0 bt198.1 bt198.2.1 bt198.2.2 t203 t204 true))))) else (laws_FnEdgecuts.j0 k l0 bt198.1 bt198.2.1 bt198.2.2 t203 t204 true))))))) = some r := h
 clear h
 by_cases c2 : (l0.length : Int) > 1048576
 ·rw [if_pos c2] at H
  have c2b0 : decide (1048576 < (l0.length : Int)) = true := decide_eq_true c2
  have c2b1 : decide (1048576 < l0.length) = true := decide_eq_true (by omega)
  clear c2
  obtain rfl := Option.some.inj H
  go_enter Tryd.func3, Tryd.ntmps3
  go_wp2
  go_ret
  exact ⟨by first | rfl | (simp [errW_none, errW_some] <;> rfl) | (simp [*, errW_none, errW_some] <;> rfl), by repeat (first | (with_reducible first | exact HB.out | apply below_alloc | apply pw_below_drewN | apply below_drew1) | exact HB.out)⟩
 ·rw [if_neg c2] at H
  have c2b0 : decide (1048576 < (l0.length : Int)) = false := decide_eq_false c2
  have c2b1 : decide (1048576 < l0.length) = false := decide_eq_false (by omega)
  clear c2
  replace H := Option.bind_eq_some_iff.mp H
  obtain ⟨⟨t198, t199, t200⟩, A30, H⟩ := H
  replace H : ((impl_BestValue.f k t198 t199 t200).bind fun t203 => ((impl_BestPlan.f k t198 t199 t200).bind fun t204 => ((impl_WaresOk.f t200).bind fun t205 => (if t205 = true then (if t203 < 0 then (laws_FnEdgecuts.j0 k l0 t198 t199 t200 t203 t204 true) else (if t204.toList = ([] : List UInt8) then (laws_FnEdgecuts.j0 k l0 t198 t199 t200 t203 t204 true) else ((impl_PlanValue.f k t198 t199 t200 t204).bind fun t206 => (if t206 = t203 then ((impl_AreaBound.f k t198 t199 t200).bind fun t207 => (if t207 < t203 then (laws_FnEdgecuts.j0 k l0 t198 t199 t200 t203 t204 true) else (if ((t204.toList == ([46] : List UInt8)) != (t203 == 0)) = true then (laws_FnEdgecuts.j0 k l0 t198 t199 t200 t203 t204 true) else (if t204.size + 1 ≤ 9223372036854775807 then ((impl_PlanValue.f k t198 t199 t200 (t204 ++ (⟨#[46]⟩ : ByteArray))).bind fun t208 => (laws_FnEdgecuts.j0 k l0 t198 t199 t200 t203 t204 (t208 != (-1)))) else (none))))) else (laws_FnEdgecuts.j0 k l0 t198 t199 t200 t203 t204 true))))) else (laws_FnEdgecuts.j0 k l0 t198 t199 t200 t203 t204 true))))) = some r := H
  have A3 := Aside0.mk A30
  clear A30
  replace H := Option.bind_eq_some_iff.mp H
  obtain ⟨t203, A40, H⟩ := H
  replace H : ((impl_BestPlan.f k t198 t199 t200).bind fun t204 => ((impl_WaresOk.f t200).bind fun t205 => (if t205 = true then (if t203 < 0 then (laws_FnEdgecuts.j0 k l0 t198 t199 t200 t203 t204 true) else (if t204.toList = ([] : List UInt8) then (laws_FnEdgecuts.j0 k l0 t198 t199 t200 t203 t204 true) else ((impl_PlanValue.f k t198 t199 t200 t204).bind fun t206 => (if t206 = t203 then ((impl_AreaBound.f k t198 t199 t200).bind fun t207 => (if t207 < t203 then (laws_FnEdgecuts.j0 k l0 t198 t199 t200 t203 t204 true) else (if ((t204.toList == ([46] : List UInt8)) != (t203 == 0)) = true then (laws_FnEdgecuts.j0 k l0 t198 t199 t200 t203 t204 true) else (if t204.size + 1 ≤ 9223372036854775807 then ((impl_PlanValue.f k t198 t199 t200 (t204 ++ (⟨#[46]⟩ : ByteArray))).bind fun t208 => (laws_FnEdgecuts.j0 k l0 t198 t199 t200 t203 t204 (t208 != (-1)))) else (none))))) else (laws_FnEdgecuts.j0 k l0 t198 t199 t200 t203 t204 true))))) else (laws_FnEdgecuts.j0 k l0 t198 t199 t200 t203 t204 true)))) = some r := H
  have A4 := Aside0.mk A40
  clear A40
  replace H := Option.bind_eq_some_iff.mp H
  obtain ⟨t204, A50, H⟩ := H
  replace H : ((impl_WaresOk.f t200).bind fun t205 => (if t205 = true then (if t203 < 0 then (laws_FnEdgecuts.j0 k l0 t198 t199 t200 t203 t204 true) else (if t204.toList = ([] : List UInt8) then (laws_FnEdgecuts.j0 k l0 t198 t199 t200 t203 t204 true) else ((impl_PlanValue.f k t198 t199 t200 t204).bind fun t206 => (if t206 = t203 then ((impl_AreaBound.f k t198 t199 t200).bind fun t207 => (if t207 < t203 then (laws_FnEdgecuts.j0 k l0 t198 t199 t200 t203 t204 true) else (if ((t204.toList == ([46] : List UInt8)) != (t203 == 0)) = true then (laws_FnEdgecuts.j0 k l0 t198 t199 t200 t203 t204 true) else (if t204.size + 1 ≤ 9223372036854775807 then ((impl_PlanValue.f k t198 t199 t200 (t204 ++ (⟨#[46]⟩ : ByteArray))).bind fun t208 => (laws_FnEdgecuts.j0 k l0 t198 t199 t200 t203 t204 (t208 != (-1)))) else (none))))) else (laws_FnEdgecuts.j0 k l0 t198 t199 t200 t203 t204 true))))) else (laws_FnEdgecuts.j0 k l0 t198 t199 t200 t203 t204 true))) = some r := H
  have A5 := Aside0.mk A50
  clear A50
  have HC6 := Aside0.mk H
  clear H
  go_enter Tryd.func3, Tryd.ntmps3
  go_upto_region 6 with (first | ((with_reducible refine gate_callee (f := 6) rfl ?_); refine goesL_ (some 22) rfl rfl Tryd.func6 (by kernel_rfl) rfl #[.slice A0 l0.length c0, .int .i64 0] rfl (by (try simp only [List.map_toArray, List.map_cons, List.map_nil]); first | done | rfl | (simp only [List.length_drop, List.length_take]; rfl)) ?_; (with_reducible refine (spec_MakePlate.calls k _ _ l0 0 t198 t199 t200 _ ?side1 ?side2 A3.out).mono ?_); (case side1 => repeat (first | exact HR0.out | (with_reducible refine Kd.C_alloc ?_ _) | (with_reducible refine Kd.C_drewN ?_ _) | (with_reducible refine Kd.C_drew ?_))); (case side2 => exact HC0.out); rintro e w7 ⟨v201, rfl, ho0, hb⟩; refine ⟨_, rfl, ?_⟩; have n0_ := Aside0.mk (Kd.S_lower ho0 (below_size (by repeat (first | (with_reducible first | exact HB.out | apply below_alloc | apply pw_below_drewN | apply below_drew1) | exact HB.out)))); have n1_ := Aside0.mk (below_step (by repeat (first | (with_reducible first | exact HB.out | apply below_alloc | apply pw_below_drewN | apply below_drew1) | exact HB.out)) hb); clear HB; have HO202 := n0_; have HB := n1_; clear n0_ n1_; (try clear hb); (try clear hb2); (try clear hk); (try clear hi); (try clear ho0); obtain ⟨Ao8, co8, eo8⟩ := Kd.S_slice HO202.out; subst eo8) | ((with_reducible refine gate_callee (f := 7) rfl ?_); refine goesL_ (some 29) rfl rfl Tryd.func7 (by kernel_rfl) rfl #[.int .i64 t198, .int .i64 t199, .slice Ao8 t200.length co8] rfl (by (try simp only [List.map_toArray, List.map_cons, List.map_nil]); first | done | rfl | (simp only [List.length_drop, List.length_take]; rfl)) ?_; (with_reducible refine (impl_BestValue.calls k t198 t199 _ _ t200 t203 _ ?side1 ?side2 A4.out).mono ?_); (case side1 => repeat (first | exact (Kd.S_reads' HO202.out).2.2 | (with_reducible refine Kd.C_alloc ?_ _) | (with_reducible refine Kd.C_drewN ?_ _) | (with_reducible refine Kd.C_drew ?_))); (case side2 => exact (Kd.S_reads' HO202.out).2.1); rintro e w9 ⟨rfl, hb⟩; refine ⟨_, rfl, ?_⟩; have n0_ := Aside0.mk (Kd.S_below (by (with_reducible repeat (first | apply Kd.S_alloc | apply Kd.S_drewN | apply Kd.S_drew)); exact HO202.out) hb); have n1_ := Aside0.mk (below_step (by repeat (first | (with_reducible first | exact HB.out | apply below_alloc | apply pw_below_drewN | apply below_drew1) | exact HB.out)) hb); clear HO202; clear HB; have HO202 := n0_; have HB := n1_; clear n0_ n1_; (try clear hb); (try clear hb2); (try clear hk); (try clear hi)) | ((with_reducible refine gate_callee (f := 8) rfl ?_); refine goesL_ (some 33) rfl rfl Tryd.func8 (by kernel_rfl) rfl #[.int .i64 t198, .int .i64 t199, .slice Ao8 t200.length co8] rfl (by (try simp only [List.map_toArray, List.map_cons, List.map_nil]); first | done | rfl | (simp only [List.length_drop, List.length_take]; rfl)) ?_; (with_reducible refine (impl_BestPlan.calls k t198 t199 _ _ t200 t204 _ ?side1 ?side2 A5.out).mono ?_); (case side1 => repeat (first | exact (Kd.S_reads' HO202.out).2.2 | (with_reducible refine Kd.C_alloc ?_ _) | (with_reducible refine Kd.C_drewN ?_ _) | (with_reducible refine Kd.C_drew ?_))); (case side2 => exact (Kd.S_reads' HO202.out).2.1); rintro e w10 ⟨rfl, hb⟩; refine ⟨_, rfl, ?_⟩; have n0_ := Aside0.mk (Kd.S_below (by (with_reducible repeat (first | apply Kd.S_alloc | apply Kd.S_drewN | apply Kd.S_drew)); exact HO202.out) hb); have n1_ := Aside0.mk (below_step (by repeat (first | (with_reducible first | exact HB.out | apply below_alloc | apply pw_below_drewN | apply below_drew1) | exact HB.out)) hb); clear HO202; clear HB; have HO202 := n0_; have HB := n1_; clear n0_ n1_; (try clear hb); (try clear hb2); (try clear hk); (try clear hi)))
  (try simp only [Act.put, List.setIfInBounds_toArray, List.set_cons_zero, List.set_cons_succ])
  go_cut [77] (fun v77 wc => ∃ (kq : Nat) (x77_5 : Bool), v77 = .bool x77_5 ∧ Aside0 (laws_FnEdgecuts.j0 kq l0 t198 t199 t200 t203 t204 x77_5 = some r) ∧ Aside0 (kq ≤ k) ∧ Aside0 (Kd.S (Kd.slice 3 (Kd.int .i64)) 30 wc w.heap.size (fun _ => True) (.slice Ao8 t200.length co8) t200) ∧ Aside0 (Below w.heap.size w wc))
  case first =>
   as_aux_lemma =>
    have H := HC6.out
    clear HC6
    replace H := Option.bind_eq_some_iff.mp H
    obtain ⟨t205, A110, H⟩ := H
    replace H : (if t205 = true then (if t203 < 0 then (laws_FnEdgecuts.j0 k l0 t198 t199 t200 t203 t204 true) else (if t204.toList = ([] : List UInt8) then (laws_FnEdgecuts.j0 k l0 t198 t199 t200 t203 t204 true) else ((impl_PlanValue.f k t198 t199 t200 t204).bind fun t206 => (if t206 = t203 then ((impl_AreaBound.f k t198 t199 t200).bind fun t207 => (if t207 < t203 then (laws_FnEdgecuts.j0 k l0 t198 t199 t200 t203 t204 true) else (if ((t204.toList == ([46] : List UInt8)) != (t203 == 0)) = true then (laws_FnEdgecuts.j0 k l0 t198 t199 t200 t203 t204 true) else (if t204.size + 1 ≤ 9223372036854775807 then ((impl_PlanValue.f k t198 t199 t200 (t204 ++ (⟨#[46]⟩ : ByteArray))).bind fun t208 => (laws_FnEdgecuts.j0 k l0 t198 t199 t200 t203 t204 (t208 != (-1)))) else (none))))) else (laws_FnEdgecuts.j0 k l0 t198 t199 t200 t203 t204 true))))) else (laws_FnEdgecuts.j0 k l0 t198 t199 t200 t203 t204 true)) = some r := H
    have A11 := Aside0.mk A110
    clear A110
    by_cases c12 : t205 = true
    rotate_left
    ·replace c12 := Bool.eq_false_iff.mpr c12
     subst c12
     have H1 : (laws_FnEdgecuts.j0 k l0 t198 t199 t200 t203 t204 true) = some r := by rw [if_neg (show ¬ (false = true) by decide)] at H; exact H
     exact (laws_FnEdgecuts.j0_dead HT H1).elim
    subst c12
    have H1 : (if t203 < 0 then (laws_FnEdgecuts.j0 k l0 t198 t199 t200 t203 t204 true) else (if t204.toList = ([] : List UInt8) then (laws_FnEdgecuts.j0 k l0 t198 t199 t200 t203 t204 true) else ((impl_PlanValue.f k t198 t199 t200 t204).bind fun t206 => (if t206 = t203 then ((impl_AreaBound.f k t198 t199 t200).bind fun t207 => (if t207 < t203 then (laws_FnEdgecuts.j0 k l0 t198 t199 t200 t203 t204 true) else (if ((t204.toList == ([46] : List UInt8)) != (t203 == 0)) = true then (laws_FnEdgecuts.j0 k l0 t198 t199 t200 t203 t204 true) else (if t204.size + 1 ≤ 9223372036854775807 then ((impl_PlanValue.f k t198 t199 t200 (t204 ++ (⟨#[46]⟩ : ByteArray))).bind fun t208 => (laws_FnEdgecuts.j0 k l0 t198 t199 t200 t203 t204 (t208 != (-1)))) else (none))))) else (laws_FnEdgecuts.j0 k l0 t198 t199 t200 t203 t204 true))))) = some r := by rw [if_pos rfl] at H; exact H
    clear H
    have H := H1
    clear H1
    by_cases c13 : t203 < 0
    ·rw [if_pos c13] at H
     exact (laws_FnEdgecuts.j0_dead HT H).elim
    rw [if_neg c13] at H
    have c13b0 : decide (t203 < 0) = false := decide_eq_false c13
    clear c13
    (first | rw [c13b0] | (simp only [i64_w, i32_w]; rw [c13b0]) | skip)
    by_cases c15 : t204.toList = ([] : List UInt8)
    ·rw [if_pos c15] at H
     exact (laws_FnEdgecuts.j0_dead HT H).elim
    rw [if_neg c15] at H
    have c15b0 : (t204.toList == ([] : List UInt8)) = false := beq_eq_false_iff_ne.mpr c15
    have c15b1 : (t204.toList != ([] : List UInt8)) = true := bne_iff_ne.mpr c15
    replace H := Option.bind_eq_some_iff.mp H
    obtain ⟨t206, A170, H⟩ := H
    replace H : (if t206 = t203 then ((impl_AreaBound.f k t198 t199 t200).bind fun t207 => (if t207 < t203 then (laws_FnEdgecuts.j0 k l0 t198 t199 t200 t203 t204 true) else (if ((t204.toList == ([46] : List UInt8)) != (t203 == 0)) = true then (laws_FnEdgecuts.j0 k l0 t198 t199 t200 t203 t204 true) else (if t204.size + 1 ≤ 9223372036854775807 then ((impl_PlanValue.f k t198 t199 t200 (t204 ++ (⟨#[46]⟩ : ByteArray))).bind fun t208 => (laws_FnEdgecuts.j0 k l0 t198 t199 t200 t203 t204 (t208 != (-1)))) else (none))))) else (laws_FnEdgecuts.j0 k l0 t198 t199 t200 t203 t204 true)) = some r := H
    have A17 := Aside0.mk A170
    clear A170
    by_cases c18 : t206 = t203
    rotate_left
    ·rw [if_neg c18] at H
     exact (laws_FnEdgecuts.j0_dead HT H).elim
    rw [if_pos c18] at H
    have c18b0 : (t206 == t203) = true := beq_iff_eq.mpr c18
    have c18b1 : (t206 != t203) = false := bne_eq_false_iff_eq.mpr c18
    clear c18
    replace H := Option.bind_eq_some_iff.mp H
    obtain ⟨t207, A190, H⟩ := H
    replace H : (if t207 < t203 then (laws_FnEdgecuts.j0 k l0 t198 t199 t200 t203 t204 true) else (if ((t204.toList == ([46] : List UInt8)) != (t203 == 0)) = true then (laws_FnEdgecuts.j0 k l0 t198 t199 t200 t203 t204 true) else (if t204.size + 1 ≤ 9223372036854775807 then ((impl_PlanValue.f k t198 t199 t200 (t204 ++ (⟨#[46]⟩ : ByteArray))).bind fun t208 => (laws_FnEdgecuts.j0 k l0 t198 t199 t200 t203 t204 (t208 != (-1)))) else (none)))) = some r := H
    have A19 := Aside0.mk A190
    clear A190
    by_cases c20 : t207 < t203
    ·rw [if_pos c20] at H
     exact (laws_FnEdgecuts.j0_dead HT H).elim
    rw [if_neg c20] at H
    have c20b0 : decide (t207 < t203) = false := decide_eq_false c20
    clear c20
    by_cases c24 : ((t204.toList == ([46] : List UInt8)) != (t203 == 0)) = true
    ·rw [if_pos c24] at H
     exact (laws_FnEdgecuts.j0_dead HT H).elim
    rw [if_neg c24] at H
    have c24b0 : ((t204.toList == ([46] : List UInt8)) != (t203 == 0)) = false := by simpa using c24
    (try (have c24b1 : decide ((t204.toList == ([46] : List UInt8)) = (t203 == 0)) = true := by simpa using c24))
    (try (have c24b2 : ((t204.toList == ([46] : List UInt8)) == (t203 == 0)) = true := by simpa using c24))
    clear c24
    by_cases c28 : t204.size + 1 ≤ 9223372036854775807
    rotate_left
    ·rw [if_neg c28] at H
     exact absurd H (by simp)
    rw [if_pos c28] at H
    have c28b0 := eq_true c28
    have c28b1 : decide (t204.size + 1 ≤ 9223372036854775807) = true := decide_eq_true c28
    try have c28b2 : (9223372036854775807 < t204.size + 1) = False := eq_false (Nat.not_lt.2 c28)
    replace H := Option.bind_eq_some_iff.mp H
    obtain ⟨t208, A290, H⟩ := H
    replace H : (laws_FnEdgecuts.j0 k l0 t198 t199 t200 t203 t204 (t208 != (-1))) = some r := H
    have A29 := Aside0.mk A290
    clear A290
    have H' := Aside0.mk H
    clear H
    go_wp2_with (first | (go_at_call 9; (with_reducible refine (impl_WaresOk.calls _ _ t200 true _ ?side1 ?side2 A11.out).mono ?_); (case side1 => repeat (first | exact (Kd.S_reads' HO202.out).2.2 | (with_reducible refine Kd.C_alloc ?_ _) | (with_reducible refine Kd.C_drewN ?_ _) | (with_reducible refine Kd.C_drew ?_))); (case side2 => exact (Kd.S_reads' HO202.out).2.1); rintro e w30 ⟨rfl, hb⟩; have n0_ := Aside0.mk (Kd.S_below (by (with_reducible repeat (first | apply Kd.S_alloc | apply Kd.S_drewN | apply Kd.S_drew)); exact HO202.out) hb); have n1_ := Aside0.mk (below_step (by repeat (first | (with_reducible first | exact HB.out | apply below_alloc | apply pw_below_drewN | apply below_drew1) | exact HB.out)) hb); clear HO202; clear HB; have HO202 := n0_; have HB := n1_; clear n0_ n1_; (try clear hb); (try clear hb2); (try clear hk); (try clear hi)) | (go_at_call 10; (with_reducible refine (impl_PlanValue.calls k t198 t199 _ _ t200 t204 t206 _ ?side1 ?side2 ?side3 A17.out).mono ?_); (case side1 => repeat (first | exact (Kd.S_reads' HO202.out).2.2 | (with_reducible refine Kd.C_alloc ?_ _) | (with_reducible refine Kd.C_drewN ?_ _) | (with_reducible refine Kd.C_drew ?_))); (case side2 => exact (Kd.S_reads' HO202.out).2.1); (case side3 => exact HLD.out.below (by repeat (first | (with_reducible first | exact HB.out | apply below_alloc | apply pw_below_drewN | apply below_drew1) | exact HB.out))); rintro e w31 ⟨rfl, hb⟩; have n0_ := Aside0.mk (Kd.S_below (by (with_reducible repeat (first | apply Kd.S_alloc | apply Kd.S_drewN | apply Kd.S_drew)); exact HO202.out) hb); have n1_ := Aside0.mk (below_step (by repeat (first | (with_reducible first | exact HB.out | apply below_alloc | apply pw_below_drewN | apply below_drew1) | exact HB.out)) hb); clear HO202; clear HB; have HO202 := n0_; have HB := n1_; clear n0_ n1_; (try clear hb); (try clear hb2); (try clear hk); (try clear hi)) | (go_at_call 11; (with_reducible refine (impl_AreaBound.calls k t198 t199 _ _ t200 t207 _ ?side1 ?side2 A19.out).mono ?_); (case side1 => repeat (first | exact (Kd.S_reads' HO202.out).2.2 | (with_reducible refine Kd.C_alloc ?_ _) | (with_reducible refine Kd.C_drewN ?_ _) | (with_reducible refine Kd.C_drew ?_))); (case side2 => exact (Kd.S_reads' HO202.out).2.1); rintro e w32 ⟨rfl, hb⟩; have n0_ := Aside0.mk (Kd.S_below (by (with_reducible repeat (first | apply Kd.S_alloc | apply Kd.S_drewN | apply Kd.S_drew)); exact HO202.out) hb); have n1_ := Aside0.mk (below_step (by repeat (first | (with_reducible first | exact HB.out | apply below_alloc | apply pw_below_drewN | apply below_drew1) | exact HB.out)) hb); clear HO202; clear HB; have HO202 := n0_; have HB := n1_; clear n0_ n1_; (try clear hb); (try clear hb2); (try clear hk); (try clear hi)) | (go_at_call 10; (with_reducible refine (impl_PlanValue.calls k t198 t199 _ _ t200 (t204 ++ (⟨#[46]⟩ : ByteArray)) t208 _ ?side1 ?side2 ?side3 A29.out).mono ?_); (case side1 => repeat (first | exact (Kd.S_reads' HO202.out).2.2 | (with_reducible refine Kd.C_alloc ?_ _) | (with_reducible refine Kd.C_drewN ?_ _) | (with_reducible refine Kd.C_drew ?_))); (case side2 => exact (Kd.S_reads' HO202.out).2.1); (case side3 => exact HLD.out.below (by repeat (first | (with_reducible first | exact HB.out | apply below_alloc | apply pw_below_drewN | apply below_drew1) | exact HB.out))); rintro e w33 ⟨rfl, hb⟩; have n0_ := Aside0.mk (Kd.S_below (by (with_reducible repeat (first | apply Kd.S_alloc | apply Kd.S_drewN | apply Kd.S_drew)); exact HO202.out) hb); have n1_ := Aside0.mk (below_step (by repeat (first | (with_reducible first | exact HB.out | apply below_alloc | apply pw_below_drewN | apply below_drew1) | exact HB.out)) hb); clear HO202; clear HB; have HO202 := n0_; have HB := n1_; clear n0_ n1_; (try clear hb); (try clear hb2); (try clear hk); (try clear hi)))
    go_meet
    case rel => exact ⟨_, ((t208 != (-1))), (by first | rfl | (simp; done) | (simp [*]; done)), H', ⟨by first | omega | exact Nat.le_refl _⟩, ⟨by (with_reducible repeat (first | apply Kd.S_alloc | apply Kd.S_drewN | apply Kd.S_drew)); exact HO202.out⟩, ⟨by repeat (first | (with_reducible first | exact HB.out | apply below_alloc | apply pw_below_drewN | apply below_drew1) | exact HB.out)⟩⟩
  case rest =>
   as_aux_lemma =>
    clear HC6
    (try clear c1); (try clear c2); (try clear c2b0); (try clear c2b1); (try clear p2); (try clear c3); (try clear c6); (try clear c7); (try clear c8); (try clear c9); (try clear c12); (try clear c13); (try clear c13b0); (try clear c15); (try clear c15b0); (try clear c15b1); (try clear c18); (try clear c18b0); (try clear c18b1); (try clear c20); (try clear c20b0); (try clear c24); (try clear c24b0); (try clear c24b1); (try clear c24b2); (try clear c28); (try clear c28b0); (try clear c28b1); (try clear c28b2)
    obtain ⟨kq, x77_5, rfl, HA, HJ5, HO_5, HB⟩ := hcut
    cases kq with
    | zero => exact absurd HA.out (by simp [laws_FnEdgecuts.j0])
    | succ kj5 =>
     have H := HA.out
     clear HA
     simp only [laws_FnEdgecuts.j0] at H
     by_cases c37 : x77_5 = true
     ·subst c37
      have H1 : (some false) = some r := by rw [if_pos rfl] at H; exact H
      exact (laws_FnEdgecuts.no_false HT H1).elim
     replace c37 := Bool.eq_false_iff.mpr c37
     subst c37
     have H1 : ((impl_WareCounts.f kj5 t200 t204).bind fun t209 => (laws_FnEdgecuts.l0 kj5 l0 t198 t199 t200 t203 t204 t209 0 0 (t200.length : Int) 0)) = some r := by rw [if_neg (show ¬ (false = true) by decide)] at H; exact H
     clear H
     have H := H1
     clear H1
     replace H := Option.bind_eq_some_iff.mp H
     obtain ⟨t209, A380, H⟩ := H
     replace H : (laws_FnEdgecuts.l0 kj5 l0 t198 t199 t200 t203 t204 t209 0 0 (t200.length : Int) 0) = some r := H
     have A38 := Aside0.mk A380
     clear A380
     have H' := Aside0.mk H
     clear H
     go_wp2_with (first | ((with_reducible refine gate_callee (f := 12) rfl ?_); refine goesL_ (some 80) rfl rfl Tryd.func12 (by kernel_rfl) rfl #[.slice Ao8 t200.length co8, .string t204] rfl (by (try simp only [List.map_toArray, List.map_cons, List.map_nil]); first | done | rfl | (simp only [List.length_drop, List.length_take]; rfl)) ?_; (with_reducible refine (impl_WareCounts.calls kj5 _ _ t200 t204 t209 _ ?side1 ?side2 A38.out).mono ?_); (case side1 => repeat (first | exact (Kd.S_reads' HO_5.out).2.2 | (with_reducible refine Kd.C_alloc ?_ _) | (with_reducible refine Kd.C_drewN ?_ _) | (with_reducible refine Kd.C_drew ?_))); (case side2 => exact (Kd.S_reads' HO_5.out).2.1); rintro e w39 ⟨v210, rfl, ho0, hb⟩; refine ⟨_, rfl, ?_⟩; have n0_ := Aside0.mk (Kd.S_elder' (by (with_reducible repeat (first | apply Kd.S_alloc | apply Kd.S_drewN | apply Kd.S_drew)); exact HO_5.out) (Kd.R_base ho0) hb); have n1_ := Aside0.mk (Kd.R_lower ho0 (below_size (by repeat (first | (with_reducible first | exact HB.out | apply below_alloc | apply pw_below_drewN | apply below_drew1) | exact HB.out)))); have n2_ := Aside0.mk (below_step (by repeat (first | (with_reducible first | exact HB.out | apply below_alloc | apply pw_below_drewN | apply below_drew1) | exact HB.out)) hb); clear HO_5; clear HB; have HO_5 := n0_; have HO211 := n1_; have HB := n2_; clear n0_ n1_ n2_; (try clear hb); (try clear hb2); (try clear hk); (try clear hi); (try clear ho0)))
     go_loopg [9, 10, 83] kj5 (fun kq v9 v10 v83 w' => ∃ (x9_2 : Int) (x10_2 : Int) (x83_2 : Int), v9 = .int .i64 x9_2 ∧ v10 = .int .i64 x10_2 ∧ v83 = .int .i64 x83_2 ∧ Aside0 (laws_FnEdgecuts.l0 kq l0 t198 t199 t200 t203 t204 t209 x9_2 x10_2 (t200.length : Int) x83_2 = some r) ∧ Aside0 (kq ≤ kj5) ∧ Aside0 (Kd.S (Kd.slice 3 (Kd.int .i64)) 30 w' w.heap.size (fun k_ => some k_ ≠ (v210 : Value).ownBlock) (.slice Ao8 t200.length co8) t200) ∧ Aside0 (Kd.R (Kd.int .i64) 3 w' w.heap.size (fun _ => True) v210 t209) ∧ Aside0 (Below w.heap.size w w'))
     case atStart => exact ⟨(0), (0), (0), (by first | rfl | (simp; done) | (simp [*]; done)), (by first | rfl | (simp; done) | (simp [*]; done)), (by first | rfl | (simp; done) | (simp [*]; done)), H', ⟨Nat.le_refl _⟩, ⟨by (with_reducible repeat (first | apply Kd.S_alloc | apply Kd.S_drewN | apply Kd.S_drew)); exact Kd.S_mono HO_5.out (fun _ hk => hk.2)⟩, ⟨by (with_reducible repeat (first | apply Kd.R_alloc | apply Kd.R_drewN | apply Kd.R_drew)); exact HO211.out⟩, ⟨by repeat (first | (with_reducible first | exact HB.out | apply below_alloc | apply pw_below_drewN | apply below_drew1) | exact HB.out)⟩⟩
     case round =>
      as_aux_lemma =>
       clear H'
       (try clear c1); (try clear c2); (try clear c2b0); (try clear c2b1); (try clear p2); (try clear c3); (try clear c6); (try clear c7); (try clear c8); (try clear c9); (try clear c12); (try clear c13); (try clear c13b0); (try clear c15); (try clear c15b0); (try clear c15b1); (try clear c18); (try clear c18b0); (try clear c18b1); (try clear c20); (try clear c20b0); (try clear c24); (try clear c24b0); (try clear c24b1); (try clear c24b2); (try clear c28); (try clear c28b0); (try clear c28b1); (try clear c28b2); (try clear c37); (try clear p2)
       obtain ⟨x9_2, x10_2, x83_2, rfl, rfl, rfl, HA, HK2, HO_5, HO_8, HB⟩ := hrel
       cases gk with
       | zero => exact absurd HA.out (by simp [laws_FnEdgecuts.l0])
       | succ k2 =>
        have H := HA.out
        clear HA
        simp only [laws_FnEdgecuts.l0] at H
        by_cases c40 : x83_2 < (t200.length : Int)
        ·rw [if_pos c40] at H
         have c40b0 : decide (x83_2 < (t200.length : Int)) = true := decide_eq_true c40
         clear c40
         by_cases c41 : 0 ≤ x83_2
         rotate_left
         ·rw [if_neg c41] at H
          exact absurd H (by simp)
         rw [if_pos c41] at H
         have c41b0 : decide (0 ≤ x83_2) = true := decide_eq_true c41
         clear c41
         by_cases c42 : x83_2 < (t200.length : Int)
         rotate_left
         ·rw [if_neg c42] at H
          exact absurd H (by simp)
         rw [if_pos c42] at H
         have c42b0 : decide (x83_2 < (t200.length : Int)) = true := decide_eq_true c42
         clear c42
         by_cases c43 : x83_2 ≥ (t209.length : Int)
         ·rw [if_pos c43] at H
          exact (laws_FnEdgecuts.no_false HT H).elim
         rw [if_neg c43] at H
         have c43b0 : decide ((t209.length : Int) ≤ x83_2) = false := decide_eq_false c43
         clear c43
         by_cases c45 : x83_2 < (t209.length : Int)
         rotate_left
         ·rw [if_neg c45] at H
          exact absurd H (by simp)
         rw [if_pos c45] at H
         have c45b0 : decide (x83_2 < (t209.length : Int)) = true := decide_eq_true c45
         clear c45
         by_cases c46 : 2 < ((rd_L2 t200 x83_2).length : Int)
         rotate_left
         ·rw [if_neg c46] at H
          exact absurd H (by simp)
         rw [if_pos c46] at H
         have c46b0 : decide (2 < ((rd_L2 t200 x83_2).length : Int)) = true := decide_eq_true c46
         have c46b1 : decide (2 < (rd_L2 t200 x83_2).length) = true := decide_eq_true (by omega)
         clear c46
         by_cases c47 : 0 < ((rd_L2 t200 x83_2).length : Int)
         rotate_left
         ·rw [if_neg c47] at H
          exact absurd H (by simp)
         rw [if_pos c47] at H
         have c47b0 : decide (0 < ((rd_L2 t200 x83_2).length : Int)) = true := decide_eq_true c47
         have c47b1 : decide (0 < (rd_L2 t200 x83_2).length) = true := decide_eq_true (by omega)
         clear c47
         by_cases c48 : 1 < ((rd_L2 t200 x83_2).length : Int)
         rotate_left
         ·rw [if_neg c48] at H
          exact absurd H (by simp)
         rw [if_pos c48] at H
         have c48b0 : decide (1 < ((rd_L2 t200 x83_2).length : Int)) = true := decide_eq_true c48
         have c48b1 : decide (1 < (rd_L2 t200 x83_2).length) = true := decide_eq_true (by omega)
         clear c48
         by_cases c49 : (rd (rd_L2 t200 x83_2) 0) ≤ t198
         ·rw [if_pos c49] at H
          have c49b0 : decide ((rd (rd_L2 t200 x83_2) 0) ≤ t198) = true := decide_eq_true c49
          clear c49
          by_cases c50 : (rd (rd_L2 t200 x83_2) 1) ≤ t199
          ·rw [if_pos c50] at H
           have c50b0 : decide ((rd (rd_L2 t200 x83_2) 1) ≤ t199) = true := decide_eq_true c50
           clear c50
           by_cases c51 : t203 < (rd (rd_L2 t200 x83_2) 2)
           ·rw [if_pos c51] at H
            exact (laws_FnEdgecuts.no_false HT H).elim
           rw [if_neg c51] at H
           have c51b0 : decide (t203 < (rd (rd_L2 t200 x83_2) 2)) = false := decide_eq_false c51
           clear c51
           have H' := Aside0.mk H
           clear H
           have p212 : 0 ≤ (x83_2 : Int) := of_decide_eq_true (by first | (with_reducible assumption) | assumption)
           have q212 : x83_2 < (t200.length : Int) := of_decide_eq_true (by first | (with_reducible assumption) | assumption)
           obtain ⟨ad212, A212_0, c212_0, e212, hx212_0, hl212_0, hi212_0⟩ := at_L2 (Kd.S_reads' HO_5.out).2.2 x83_2 p212 q212
           cases e212
           obtain ⟨ce212, hce212, hMe212, hcc212⟩ := Kd.S_get HO_5.out [] x83_2 p212 (by first | exact q212 | exact of_decide_eq_true (by first | (with_reducible assumption) | assumption) | (have e_ := (Kd.S_reads' HO_5.out).1; omega))
           obtain ⟨ve212_0, rfl, ge212_0⟩ := hMe212
           have hv212_0 := hcc212 0 _ rfl
           rw [Nat.add_zero, show ((Kd.slice 3 (Kd.int .i64))).sz = 1 from rfl, Nat.mul_one] at hv212_0
           replace hv212_0 := Option.some.inj (hv212_0.symm.trans hx212_0)
           rw [hv212_0] at ge212_0
           have HL212_0 := Aside0.mk (show Kd.R (Kd.int .i64) 3 _ _ _ _ (rd_L2 t200 x83_2) from ge212_0)
           clear hv212_0 ge212_0
           clear hcc212 hce212
           have HR212_0 := Aside0.mk hi212_0
           have HC212_0 := Aside0.mk hl212_0
           clear hi212_0 hl212_0
           replace p212 := eq_true p212
           replace q212 := eq_true q212
           obtain ⟨Ao55, co55, eo55⟩ := Kd.R_slice HO_8.out
           subst eo55
           try go_wp2
           have n0_ := Aside0.mk (Kd.S_drew HO_5.out)
           have n1_ := Aside0.mk (Kd.R_drew HO_8.out)
           have n2_ := Aside0.mk (Kd.R_drew HL212_0.out)
           have n3_ := Aside0.mk (Kd.C_drew HR212_0.out)
           have n4_ := Aside0.mk (below_drew1 HB.out)
           clear HO_5
           clear HO_8
           clear HL212_0
           clear HR212_0
           clear HB
           have HO_5 := n0_
           have HO_8 := n1_
           have HL212_0 := n2_
           have HR212_0 := n3_
           have HB := n4_
           clear n0_ n1_ n2_ n3_ n4_
           have p213 : 0 ≤ (x83_2 : Int) := of_decide_eq_true (by first | (with_reducible assumption) | assumption)
           have q213 : x83_2 < (t209.length : Int) := of_decide_eq_true (by first | (with_reducible assumption) | assumption)
           obtain ⟨ad213, e213, hx213_0⟩ := Kd.at_int (Kd.R_reads' HO_8.out).2.2 x83_2 p213 q213
           cases e213
           replace p213 := eq_true p213
           replace q213 := eq_true q213
           have p214 : 0 ≤ (2 : Int) := (by omega)
           have q214 : 2 < ((rd_L2 t200 x83_2).length : Int) := of_decide_eq_true (by first | (with_reducible assumption) | assumption)
           obtain ⟨ad214, e214, hx214_0⟩ := Kd.at_int (by repeat (first | (with_reducible exact HR212_0.out) | (with_reducible refine Kd.C_alloc ?_ _) | (with_reducible refine Kd.C_drewN ?_ _) | (with_reducible refine Kd.C_drew ?_) | exact HR212_0.out)) 2 p214 q214
           cases e214
           (try simp only [show (2 : Int).toNat = 2 from rfl, Nat.reduceMul, Nat.reduceEqDiff, Go.Addr.add, ↓reduceIte] at hx214_0)
           have qi214 : (2 < (rd_L2 t200 x83_2).length) = True := eq_true (by omega)
           (try rw [show ((2 : Int)).toNat = 2 from rfl] at hx214_0)
           replace p214 := eq_true p214
           replace q214 := eq_true q214
           as_aux_lemma =>
            refine start_ (n := 11) (S := fun w' => w'.cell? (ad213.add (x83_2).toNat) = some (.int .i64 (rd t209 x83_2)) ∧ w'.cell? ⟨ad214.block, ad214.off + 2, none⟩ = some (.int .i64 (rd (rd_L2 t200 x83_2) 2))) (ds := []) (laws_FnEdgecuts.qB 11 0) (by kernel_rfl) rfl rfl ⟨hx213_0, hx214_0⟩ (fun hHeld => ?_); refine with_tabW laws_FnEdgecuts.tab16 laws_FnEdgecuts.bits16 (fun HT_ HW_ => ?_)
            generalize wr.drew = w56 at HO_5 HO_8 HL212_0 HR212_0 HB hx213_0 hx214_0 hHeld ⊢
            refine pure_ (i := 0) (N := some 92) (v := ?_) (a' := ?_) (laws_FnEdgecuts.qB 11 1) rfl rfl (any_of HT_.out (by kernel_rfl)) (fun _ _ _ h => h) (Or.inl ⟨by rfl, ?_⟩) ?_ ?_
            rotate_left; (intro w'; go_simp; with_reducible rfl); rotate_left; (simp only [Act.put, List.setIfInBounds_toArray, List.set_cons_zero, List.set_cons_succ, i64_w, i32_w]; rfl)
            refine pure_ (i := 1) (N := some 93) (v := ?_) (a' := ?_) (laws_FnEdgecuts.qB 11 3) rfl rfl (any_of HT_.out (by kernel_rfl)) (fun _ _ _ h => h) (Or.inl ⟨by rfl, ?_⟩) ?_ ?_
            rotate_left; (intro w'; go_simp; with_reducible rfl); rotate_left; (simp only [Act.put, List.setIfInBounds_toArray, List.set_cons_zero, List.set_cons_succ, i64_w, i32_w]; rfl)
            refine pure_ (i := 2) (N := some 94) (v := ?_) (a' := ?_) (laws_FnEdgecuts.qB 11 7) rfl rfl (any_of HT_.out (by kernel_rfl)) (fun _ _ _ h => h) (Or.inl ⟨by rfl, ?_⟩) ?_ ?_
            rotate_left; (intro w'; go_simp; with_reducible rfl); rotate_left; (simp only [Act.put, List.setIfInBounds_toArray, List.set_cons_zero, List.set_cons_succ, i64_w, i32_w]; rfl)
            refine pure_ (i := 3) (N := some 95) (v := ?_) (a' := ?_) (laws_FnEdgecuts.qB 11 15) rfl rfl (any_of HT_.out (by kernel_rfl)) (fun _ _ _ h => h) (Or.inl ⟨by rfl, ?_⟩) ?_ ?_
            rotate_left; (intro w'; go_simp; with_reducible rfl); rotate_left; (simp only [Act.put, List.setIfInBounds_toArray, List.set_cons_zero, List.set_cons_succ, i64_w, i32_w]; rfl)
            refine pure_ (i := 5) (N := some 97) (v := ?_) (a' := ?_) (laws_FnEdgecuts.qB 11 47) rfl rfl (any_of HT_.out (by kernel_rfl)) (fun _ _ _ h => h) (Or.inl ⟨by rfl, ?_⟩) ?_ ?_
            rotate_left; (intro w'; go_simp; with_reducible rfl); rotate_left; (simp only [Act.put, List.setIfInBounds_toArray, List.set_cons_zero, List.set_cons_succ, i64_w, i32_w]; rfl)
            refine pure_ (i := 6) (N := some 98) (v := ?_) (a' := ?_) (laws_FnEdgecuts.qB 11 111) rfl rfl (any_of HT_.out (by kernel_rfl)) (fun _ _ _ h => h) (Or.inl ⟨by rfl, ?_⟩) ?_ ?_
            rotate_left; (intro w'; go_simp; with_reducible rfl); rotate_left; (simp only [Act.put, List.setIfInBounds_toArray, List.set_cons_zero, List.set_cons_succ, i64_w, i32_w]; rfl)
            refine take_ (i := 4) (N := some 96) (v := ?_) (a' := ?_) (laws_FnEdgecuts.qB 11 127) rfl rfl (take_ofW HT_.out HW_.out (by kernel_rfl)) (fun _ _ _ h => h) (Or.inl ⟨by rfl, ?_⟩) hHeld ?_ ?_
            rotate_left; (rintro w' ⟨s0, s1⟩; go_simp; with_reducible rfl); rotate_left; (simp only [Act.put, List.setIfInBounds_toArray, List.set_cons_zero, List.set_cons_succ, i64_w, i32_w]; rfl)
            refine take_ (i := 7) (N := some 99) (v := ?_) (a' := ?_) (laws_FnEdgecuts.qB 11 255) rfl rfl (take_ofW HT_.out HW_.out (by kernel_rfl)) (fun _ _ _ h => h) (Or.inl ⟨by rfl, ?_⟩) hHeld ?_ ?_
            rotate_left; (rintro w' ⟨s0, s1⟩; go_simp; with_reducible rfl); rotate_left; (simp only [Act.put, List.setIfInBounds_toArray, List.set_cons_zero, List.set_cons_succ, i64_w, i32_w]; rfl)
            refine pure_ (i := 8) (N := some 100) (v := ?_) (a' := ?_) (laws_FnEdgecuts.qB 11 511) rfl rfl (any_of HT_.out (by kernel_rfl)) (fun _ _ _ h => h) (Or.inl ⟨by rfl, ?_⟩) ?_ ?_
            rotate_left; (intro w'; go_simp; with_reducible rfl); rotate_left; (simp only [Act.put, List.setIfInBounds_toArray, List.set_cons_zero, List.set_cons_succ, i64_w, i32_w]; rfl)
            refine pure_ (i := 9) (N := some 101) (v := ?_) (a' := ?_) (laws_FnEdgecuts.qB 11 1023) rfl rfl (any_of HT_.out (by kernel_rfl)) (fun _ _ _ h => h) (Or.inl ⟨by rfl, ?_⟩) ?_ ?_
            rotate_left; (intro w'; go_simp; with_reducible rfl); rotate_left; (simp only [Act.put, List.setIfInBounds_toArray, List.set_cons_zero, List.set_cons_succ, i64_w, i32_w]; rfl)
            refine pure_ (i := 10) (N := some 9) (v := ?_) (a' := ?_) (laws_FnEdgecuts.qB 11 2047) rfl rfl (any_of HT_.out (by kernel_rfl)) (fun _ _ _ h => h) (Or.inl ⟨by rfl, ?_⟩) ?_ ?_
            rotate_left; (intro w'; go_simp; with_reducible rfl); rotate_left; (simp only [Act.put, List.setIfInBounds_toArray, List.set_cons_zero, List.set_cons_succ, i64_w, i32_w]; rfl)
            refine done_ (done_of HT_.out (by kernel_rfl)) ?_
            try go_wp2
            have n0_ := Aside0.mk (Kd.S_drew HO_5.out)
            have n1_ := Aside0.mk (Kd.R_drew HO_8.out)
            have n2_ := Aside0.mk (Kd.R_drew HL212_0.out)
            have n3_ := Aside0.mk (Kd.C_drew HR212_0.out)
            have n4_ := Aside0.mk (below_drew1 HB.out)
            clear HO_5
            clear HO_8
            clear HL212_0
            clear HR212_0
            clear HB
            have HO_5 := n0_
            have HO_8 := n1_
            have HL212_0 := n2_
            have HR212_0 := n3_
            have HB := n4_
            clear n0_ n1_ n2_ n3_ n4_
            have p215 : 0 ≤ (x83_2 : Int) := of_decide_eq_true (by first | (with_reducible assumption) | assumption)
            have q215 : x83_2 < (t209.length : Int) := of_decide_eq_true (by first | (with_reducible assumption) | assumption)
            obtain ⟨ad215, e215, hx215_0⟩ := Kd.at_int (Kd.R_reads' HO_8.out).2.2 x83_2 p215 q215
            obtain rfl : ad213 = ad215 := (by injection e215)
            replace p215 := eq_true p215
            replace q215 := eq_true q215
            have p216 : 0 ≤ (0 : Int) := (by omega)
            have q216 : 0 < ((rd_L2 t200 x83_2).length : Int) := of_decide_eq_true (by first | (with_reducible assumption) | assumption)
            obtain ⟨ad216, e216, hx216_0⟩ := Kd.at_int (by repeat (first | (with_reducible exact HR212_0.out) | (with_reducible refine Kd.C_alloc ?_ _) | (with_reducible refine Kd.C_drewN ?_ _) | (with_reducible refine Kd.C_drew ?_) | exact HR212_0.out)) 0 p216 q216
            obtain rfl : ad214 = ad216 := (by injection e216)
            have qi216 : (0 < (rd_L2 t200 x83_2).length) = True := eq_true (by omega)
            (try rw [show ((0 : Int)).toNat = 0 from rfl] at hx216_0)
            (try rw [Addr.add_zero'] at hx216_0)
            replace p216 := eq_true p216
            replace q216 := eq_true q216
            have p217 : 0 ≤ (1 : Int) := (by omega)
            have q217 : 1 < ((rd_L2 t200 x83_2).length : Int) := of_decide_eq_true (by first | (with_reducible assumption) | assumption)
            obtain ⟨ad217, e217, hx217_0⟩ := Kd.at_int (by repeat (first | (with_reducible exact HR212_0.out) | (with_reducible refine Kd.C_alloc ?_ _) | (with_reducible refine Kd.C_drewN ?_ _) | (with_reducible refine Kd.C_drew ?_) | exact HR212_0.out)) 1 p217 q217
            obtain rfl : ad214 = ad217 := (by injection e217)
            (try simp only [show (1 : Int).toNat = 1 from rfl, Nat.reduceMul, Nat.reduceEqDiff, Go.Addr.add, ↓reduceIte] at hx217_0)
            have qi217 : (1 < (rd_L2 t200 x83_2).length) = True := eq_true (by omega)
            (try rw [show ((1 : Int)).toNat = 1 from rfl] at hx217_0)
            replace p217 := eq_true p217
            replace q217 := eq_true q217
            as_aux_lemma =>
             refine start_ (n := 15) (S := fun w' => w'.cell? (ad213.add (x83_2).toNat) = some (.int .i64 (rd t209 x83_2)) ∧ w'.cell? ad214 = some (.int .i64 (rd (rd_L2 t200 x83_2) 0)) ∧ w'.cell? ⟨ad214.block, ad214.off + 1, none⟩ = some (.int .i64 (rd (rd_L2 t200 x83_2) 1))) (ds := []) (laws_FnEdgecuts.qB 15 0) (by kernel_rfl) rfl rfl ⟨hx215_0, hx216_0, hx217_0⟩ (fun hHeld => ?_); refine with_tabW laws_FnEdgecuts.tab17 laws_FnEdgecuts.bits17 (fun HT_ HW_ => ?_)
             generalize w56.drew = w57 at HO_5 HO_8 HL212_0 HR212_0 HB hx215_0 hx216_0 hx217_0 hHeld ⊢
             refine pure_ (i := 0) (N := some 102) (v := ?_) (a' := ?_) (laws_FnEdgecuts.qB 15 1) rfl rfl (any_of HT_.out (by kernel_rfl)) (fun _ _ _ h => h) (Or.inl ⟨by rfl, ?_⟩) ?_ ?_
             rotate_left; (intro w'; go_simp; with_reducible rfl); rotate_left; (simp only [Act.put, List.setIfInBounds_toArray, List.set_cons_zero, List.set_cons_succ, i64_w, i32_w]; rfl)
             refine pure_ (i := 1) (N := some 103) (v := ?_) (a' := ?_) (laws_FnEdgecuts.qB 15 3) rfl rfl (any_of HT_.out (by kernel_rfl)) (fun _ _ _ h => h) (Or.inl ⟨by rfl, ?_⟩) ?_ ?_
             rotate_left; (intro w'; go_simp; with_reducible rfl); rotate_left; (simp only [Act.put, List.setIfInBounds_toArray, List.set_cons_zero, List.set_cons_succ, i64_w, i32_w]; rfl)
             refine pure_ (i := 2) (N := some 104) (v := ?_) (a' := ?_) (laws_FnEdgecuts.qB 15 7) rfl rfl (any_of HT_.out (by kernel_rfl)) (fun _ _ _ h => h) (Or.inl ⟨by rfl, ?_⟩) ?_ ?_
             rotate_left; (intro w'; go_simp; with_reducible rfl); rotate_left; (simp only [Act.put, List.setIfInBounds_toArray, List.set_cons_zero, List.set_cons_succ, i64_w, i32_w]; rfl)
             refine pure_ (i := 3) (N := some 105) (v := ?_) (a' := ?_) (laws_FnEdgecuts.qB 15 15) rfl rfl (any_of HT_.out (by kernel_rfl)) (fun _ _ _ h => h) (Or.inl ⟨by rfl, ?_⟩) ?_ ?_
             rotate_left; (intro w'; go_simp; with_reducible rfl); rotate_left; (simp only [Act.put, List.setIfInBounds_toArray, List.set_cons_zero, List.set_cons_succ, i64_w, i32_w]; rfl)
             refine pure_ (i := 5) (N := some 107) (v := ?_) (a' := ?_) (laws_FnEdgecuts.qB 15 47) rfl rfl (any_of HT_.out (by kernel_rfl)) (fun _ _ _ h => h) (Or.inl ⟨by rfl, ?_⟩) ?_ ?_
             rotate_left; (intro w'; go_simp; with_reducible rfl); rotate_left; (simp only [Act.put, List.setIfInBounds_toArray, List.set_cons_zero, List.set_cons_succ, i64_w, i32_w]; rfl)
             refine pure_ (i := 6) (N := some 108) (v := ?_) (a' := ?_) (laws_FnEdgecuts.qB 15 111) rfl rfl (any_of HT_.out (by kernel_rfl)) (fun _ _ _ h => h) (Or.inl ⟨by rfl, ?_⟩) ?_ ?_
             rotate_left; (intro w'; go_simp; with_reducible rfl); rotate_left; (simp only [Act.put, List.setIfInBounds_toArray, List.set_cons_zero, List.set_cons_succ, i64_w, i32_w]; rfl)
             refine pure_ (i := 9) (N := some 111) (v := ?_) (a' := ?_) (laws_FnEdgecuts.qB 15 623) rfl rfl (any_of HT_.out (by kernel_rfl)) (fun _ _ _ h => h) (Or.inl ⟨by rfl, ?_⟩) ?_ ?_
             rotate_left; (intro w'; go_simp; with_reducible rfl); rotate_left; (simp only [Act.put, List.setIfInBounds_toArray, List.set_cons_zero, List.set_cons_succ, i64_w, i32_w]; rfl)
             refine pure_ (i := 10) (N := some 112) (v := ?_) (a' := ?_) (laws_FnEdgecuts.qB 15 1647) rfl rfl (any_of HT_.out (by kernel_rfl)) (fun _ _ _ h => h) (Or.inl ⟨by rfl, ?_⟩) ?_ ?_
             rotate_left; (intro w'; go_simp; with_reducible rfl); rotate_left; (simp only [Act.put, List.setIfInBounds_toArray, List.set_cons_zero, List.set_cons_succ, i64_w, i32_w]; rfl)
             refine take_ (i := 4) (N := some 106) (v := ?_) (a' := ?_) (laws_FnEdgecuts.qB 15 1663) rfl rfl (take_ofW HT_.out HW_.out (by kernel_rfl)) (fun _ _ _ h => h) (Or.inl ⟨by rfl, ?_⟩) hHeld ?_ ?_
             rotate_left; (rintro w' ⟨s0, s1, s2⟩; go_simp; with_reducible rfl); rotate_left; (simp only [Act.put, List.setIfInBounds_toArray, List.set_cons_zero, List.set_cons_succ, i64_w, i32_w]; rfl)
             refine take_ (i := 7) (N := some 109) (v := ?_) (a' := ?_) (laws_FnEdgecuts.qB 15 1791) rfl rfl (take_ofW HT_.out HW_.out (by kernel_rfl)) (fun _ _ _ h => h) (Or.inl ⟨by rfl, ?_⟩) hHeld ?_ ?_
             rotate_left; (rintro w' ⟨s0, s1, s2⟩; go_simp; with_reducible rfl); rotate_left; (simp only [Act.put, List.setIfInBounds_toArray, List.set_cons_zero, List.set_cons_succ, i64_w, i32_w]; rfl)
             refine pure_ (i := 8) (N := some 110) (v := ?_) (a' := ?_) (laws_FnEdgecuts.qB 15 2047) rfl rfl (any_of HT_.out (by kernel_rfl)) (fun _ _ _ h => h) (Or.inl ⟨by rfl, ?_⟩) ?_ ?_
             rotate_left; (intro w'; go_simp; with_reducible rfl); rotate_left; (simp only [Act.put, List.setIfInBounds_toArray, List.set_cons_zero, List.set_cons_succ, i64_w, i32_w]; rfl)
             refine take_ (i := 11) (N := some 113) (v := ?_) (a' := ?_) (laws_FnEdgecuts.qB 15 4095) rfl rfl (take_ofW HT_.out HW_.out (by kernel_rfl)) (fun _ _ _ h => h) (Or.inl ⟨by rfl, ?_⟩) hHeld ?_ ?_
             rotate_left; (rintro w' ⟨s0, s1, s2⟩; go_simp; with_reducible rfl); rotate_left; (simp only [Act.put, List.setIfInBounds_toArray, List.set_cons_zero, List.set_cons_succ, i64_w, i32_w]; rfl)
             refine pure_ (i := 12) (N := some 114) (v := ?_) (a' := ?_) (laws_FnEdgecuts.qB 15 8191) rfl rfl (any_of HT_.out (by kernel_rfl)) (fun _ _ _ h => h) (Or.inl ⟨by rfl, ?_⟩) ?_ ?_
             rotate_left; (intro w'; go_simp; with_reducible rfl); rotate_left; (simp only [Act.put, List.setIfInBounds_toArray, List.set_cons_zero, List.set_cons_succ, i64_w, i32_w]; rfl)
             refine pure_ (i := 13) (N := some 115) (v := ?_) (a' := ?_) (laws_FnEdgecuts.qB 15 16383) rfl rfl (any_of HT_.out (by kernel_rfl)) (fun _ _ _ h => h) (Or.inl ⟨by rfl, ?_⟩) ?_ ?_
             rotate_left; (intro w'; go_simp; with_reducible rfl); rotate_left; (simp only [Act.put, List.setIfInBounds_toArray, List.set_cons_zero, List.set_cons_succ, i64_w, i32_w]; rfl)
             refine pure_ (i := 14) (N := some 10) (v := ?_) (a' := ?_) (laws_FnEdgecuts.qB 15 32767) rfl rfl (any_of HT_.out (by kernel_rfl)) (fun _ _ _ h => h) (Or.inl ⟨by rfl, ?_⟩) ?_ ?_
             rotate_left; (intro w'; go_simp; with_reducible rfl); rotate_left; (simp only [Act.put, List.setIfInBounds_toArray, List.set_cons_zero, List.set_cons_succ, i64_w, i32_w]; rfl)
             refine done_ (done_of HT_.out (by kernel_rfl)) ?_
             have p218 : 0 ≤ (0 : Int) := (by omega)
             have q218 : 0 < ((rd_L2 t200 x83_2).length : Int) := of_decide_eq_true (by first | (with_reducible assumption) | assumption)
             obtain ⟨ad218, e218, hx218_0⟩ := Kd.at_int (by repeat (first | (with_reducible exact HR212_0.out) | (with_reducible refine Kd.C_alloc ?_ _) | (with_reducible refine Kd.C_drewN ?_ _) | (with_reducible refine Kd.C_drew ?_) | exact HR212_0.out)) 0 p218 q218
             obtain rfl : ad214 = ad218 := (by injection e218)
             have qi218 : (0 < (rd_L2 t200 x83_2).length) = True := eq_true (by omega)
             (try rw [show ((0 : Int)).toNat = 0 from rfl] at hx218_0)
             (try rw [Addr.add_zero'] at hx218_0)
             replace p218 := eq_true p218
             replace q218 := eq_true q218
             have p219 : 0 ≤ (1 : Int) := (by omega)
             have q219 : 1 < ((rd_L2 t200 x83_2).length : Int) := of_decide_eq_true (by first | (with_reducible assumption) | assumption)
             obtain ⟨ad219, e219, hx219_0⟩ := Kd.at_int (by repeat (first | (with_reducible exact HR212_0.out) | (with_reducible refine Kd.C_alloc ?_ _) | (with_reducible refine Kd.C_drewN ?_ _) | (with_reducible refine Kd.C_drew ?_) | exact HR212_0.out)) 1 p219 q219
             obtain rfl : ad214 = ad219 := (by injection e219)
             (try simp only [show (1 : Int).toNat = 1 from rfl, Nat.reduceMul, Nat.reduceEqDiff, Go.Addr.add, ↓reduceIte] at hx219_0)
             have qi219 : (1 < (rd_L2 t200 x83_2).length) = True := eq_true (by omega)
             (try rw [show ((1 : Int)).toNat = 1 from rfl] at hx219_0)
             replace p219 := eq_true p219
             replace q219 := eq_true q219
             have p220 : 0 ≤ (2 : Int) := (by omega)
             have q220 : 2 < ((rd_L2 t200 x83_2).length : Int) := of_decide_eq_true (by first | (with_reducible assumption) | assumption)
             obtain ⟨ad220, e220, hx220_0⟩ := Kd.at_int (by repeat (first | (with_reducible exact HR212_0.out) | (with_reducible refine Kd.C_alloc ?_ _) | (with_reducible refine Kd.C_drewN ?_ _) | (with_reducible refine Kd.C_drew ?_) | exact HR212_0.out)) 2 p220 q220
             obtain rfl : ad214 = ad220 := (by injection e220)
             (try simp only [show (2 : Int).toNat = 2 from rfl, Nat.reduceMul, Nat.reduceEqDiff, Go.Addr.add, ↓reduceIte] at hx220_0)
             have qi220 : (2 < (rd_L2 t200 x83_2).length) = True := eq_true (by omega)
             (try rw [show ((2 : Int)).toNat = 2 from rfl] at hx220_0)
             replace p220 := eq_true p220
             replace q220 := eq_true q220
             try go_wp2
             go_roundg k2
             case measure => have := HJ5.out; have := HK2.out; omega
             case rel => exact ⟨(wrap64 (x9_2 + (wrap64 ((rd t209 x83_2) * (rd (rd_L2 t200 x83_2) 2))))), (wrap64 (x10_2 + (wrap64 ((wrap64 ((rd t209 x83_2) * (rd (rd_L2 t200 x83_2) 0))) * (rd (rd_L2 t200 x83_2) 1))))), (wrap64 (x83_2 + 1)), (by first | rfl | (simp; done) | (simp [*]; done)), (by first | rfl | (simp; done) | (simp [*]; done)), (by first | rfl | (simp; done) | (simp [*]; done)), H', ⟨by have := HJ5.out; have := HK2.out; omega⟩, ⟨by (with_reducible repeat (first | apply Kd.S_alloc | apply Kd.S_drewN | apply Kd.S_drew)); exact HO_5.out⟩, ⟨by (with_reducible repeat (first | apply Kd.R_alloc | apply Kd.R_drewN | apply Kd.R_drew)); exact HO_8.out⟩, ⟨by repeat (first | (with_reducible first | exact HB.out | apply below_alloc | apply pw_below_drewN | apply below_drew1) | exact HB.out)⟩⟩
          ·rw [if_neg c50] at H
           have c50b0 : decide ((rd (rd_L2 t200 x83_2) 1) ≤ t199) = false := decide_eq_false c50
           clear c50
           have H' := Aside0.mk H
           clear H
           have p212 : 0 ≤ (x83_2 : Int) := of_decide_eq_true (by first | (with_reducible assumption) | assumption)
           have q212 : x83_2 < (t200.length : Int) := of_decide_eq_true (by first | (with_reducible assumption) | assumption)
           obtain ⟨ad212, A212_0, c212_0, e212, hx212_0, hl212_0, hi212_0⟩ := at_L2 (Kd.S_reads' HO_5.out).2.2 x83_2 p212 q212
           cases e212
           obtain ⟨ce212, hce212, hMe212, hcc212⟩ := Kd.S_get HO_5.out [] x83_2 p212 (by first | exact q212 | exact of_decide_eq_true (by first | (with_reducible assumption) | assumption) | (have e_ := (Kd.S_reads' HO_5.out).1; omega))
           obtain ⟨ve212_0, rfl, ge212_0⟩ := hMe212
           have hv212_0 := hcc212 0 _ rfl
           rw [Nat.add_zero, show ((Kd.slice 3 (Kd.int .i64))).sz = 1 from rfl, Nat.mul_one] at hv212_0
           replace hv212_0 := Option.some.inj (hv212_0.symm.trans hx212_0)
           rw [hv212_0] at ge212_0
           have HL212_0 := Aside0.mk (show Kd.R (Kd.int .i64) 3 _ _ _ _ (rd_L2 t200 x83_2) from ge212_0)
           clear hv212_0 ge212_0
           clear hcc212 hce212
           have HR212_0 := Aside0.mk hi212_0
           have HC212_0 := Aside0.mk hl212_0
           clear hi212_0 hl212_0
           replace p212 := eq_true p212
           replace q212 := eq_true q212
           obtain ⟨Ao58, co58, eo58⟩ := Kd.R_slice HO_8.out
           subst eo58
           try go_wp2
           have n0_ := Aside0.mk (Kd.S_drew HO_5.out)
           have n1_ := Aside0.mk (Kd.R_drew HO_8.out)
           have n2_ := Aside0.mk (Kd.R_drew HL212_0.out)
           have n3_ := Aside0.mk (Kd.C_drew HR212_0.out)
           have n4_ := Aside0.mk (below_drew1 HB.out)
           clear HO_5
           clear HO_8
           clear HL212_0
           clear HR212_0
           clear HB
           have HO_5 := n0_
           have HO_8 := n1_
           have HL212_0 := n2_
           have HR212_0 := n3_
           have HB := n4_
           clear n0_ n1_ n2_ n3_ n4_
           have p213 : 0 ≤ (x83_2 : Int) := of_decide_eq_true (by first | (with_reducible assumption) | assumption)
           have q213 : x83_2 < (t209.length : Int) := of_decide_eq_true (by first | (with_reducible assumption) | assumption)
           obtain ⟨ad213, e213, hx213_0⟩ := Kd.at_int (Kd.R_reads' HO_8.out).2.2 x83_2 p213 q213
           cases e213
           replace p213 := eq_true p213
           replace q213 := eq_true q213
           have p214 : 0 ≤ (2 : Int) := (by omega)
           have q214 : 2 < ((rd_L2 t200 x83_2).length : Int) := of_decide_eq_true (by first | (with_reducible assumption) | assumption)
           obtain ⟨ad214, e214, hx214_0⟩ := Kd.at_int (by repeat (first | (with_reducible exact HR212_0.out) | (with_reducible refine Kd.C_alloc ?_ _) | (with_reducible refine Kd.C_drewN ?_ _) | (with_reducible refine Kd.C_drew ?_) | exact HR212_0.out)) 2 p214 q214
           cases e214
           (try simp only [show (2 : Int).toNat = 2 from rfl, Nat.reduceMul, Nat.reduceEqDiff, Go.Addr.add, ↓reduceIte] at hx214_0)
           have qi214 : (2 < (rd_L2 t200 x83_2).length) = True := eq_true (by omega)
           (try rw [show ((2 : Int)).toNat = 2 from rfl] at hx214_0)
           replace p214 := eq_true p214
           replace q214 := eq_true q214
           as_aux_lemma =>
            refine start_ (n := 11) (S := fun w' => w'.cell? (ad213.add (x83_2).toNat) = some (.int .i64 (rd t209 x83_2)) ∧ w'.cell? ⟨ad214.block, ad214.off + 2, none⟩ = some (.int .i64 (rd (rd_L2 t200 x83_2) 2))) (ds := []) (laws_FnEdgecuts.qB 11 0) (by kernel_rfl) rfl rfl ⟨hx213_0, hx214_0⟩ (fun hHeld => ?_); refine with_tabW laws_FnEdgecuts.tab16 laws_FnEdgecuts.bits16 (fun HT_ HW_ => ?_)
            generalize wr.drew = w59 at HO_5 HO_8 HL212_0 HR212_0 HB hx213_0 hx214_0 hHeld ⊢
            refine pure_ (i := 0) (N := some 92) (v := ?_) (a' := ?_) (laws_FnEdgecuts.qB 11 1) rfl rfl (any_of HT_.out (by kernel_rfl)) (fun _ _ _ h => h) (Or.inl ⟨by rfl, ?_⟩) ?_ ?_
            rotate_left; (intro w'; go_simp; with_reducible rfl); rotate_left; (simp only [Act.put, List.setIfInBounds_toArray, List.set_cons_zero, List.set_cons_succ, i64_w, i32_w]; rfl)
            refine pure_ (i := 1) (N := some 93) (v := ?_) (a' := ?_) (laws_FnEdgecuts.qB 11 3) rfl rfl (any_of HT_.out (by kernel_rfl)) (fun _ _ _ h => h) (Or.inl ⟨by rfl, ?_⟩) ?_ ?_
            rotate_left; (intro w'; go_simp; with_reducible rfl); rotate_left; (simp only [Act.put, List.setIfInBounds_toArray, List.set_cons_zero, List.set_cons_succ, i64_w, i32_w]; rfl)
            refine pure_ (i := 2) (N := some 94) (v := ?_) (a' := ?_) (laws_FnEdgecuts.qB 11 7) rfl rfl (any_of HT_.out (by kernel_rfl)) (fun _ _ _ h => h) (Or.inl ⟨by rfl, ?_⟩) ?_ ?_
            rotate_left; (intro w'; go_simp; with_reducible rfl); rotate_left; (simp only [Act.put, List.setIfInBounds_toArray, List.set_cons_zero, List.set_cons_succ, i64_w, i32_w]; rfl)
            refine pure_ (i := 3) (N := some 95) (v := ?_) (a' := ?_) (laws_FnEdgecuts.qB 11 15) rfl rfl (any_of HT_.out (by kernel_rfl)) (fun _ _ _ h => h) (Or.inl ⟨by rfl, ?_⟩) ?_ ?_
            rotate_left; (intro w'; go_simp; with_reducible rfl); rotate_left; (simp only [Act.put, List.setIfInBounds_toArray, List.set_cons_zero, List.set_cons_succ, i64_w, i32_w]; rfl)
            refine pure_ (i := 5) (N := some 97) (v := ?_) (a' := ?_) (laws_FnEdgecuts.qB 11 47) rfl rfl (any_of HT_.out (by kernel_rfl)) (fun _ _ _ h => h) (Or.inl ⟨by rfl, ?_⟩) ?_ ?_
            rotate_left; (intro w'; go_simp; with_reducible rfl); rotate_left; (simp only [Act.put, List.setIfInBounds_toArray, List.set_cons_zero, List.set_cons_succ, i64_w, i32_w]; rfl)
            refine pure_ (i := 6) (N := some 98) (v := ?_) (a' := ?_) (laws_FnEdgecuts.qB 11 111) rfl rfl (any_of HT_.out (by kernel_rfl)) (fun _ _ _ h => h) (Or.inl ⟨by rfl, ?_⟩) ?_ ?_
            rotate_left; (intro w'; go_simp; with_reducible rfl); rotate_left; (simp only [Act.put, List.setIfInBounds_toArray, List.set_cons_zero, List.set_cons_succ, i64_w, i32_w]; rfl)
            refine take_ (i := 4) (N := some 96) (v := ?_) (a' := ?_) (laws_FnEdgecuts.qB 11 127) rfl rfl (take_ofW HT_.out HW_.out (by kernel_rfl)) (fun _ _ _ h => h) (Or.inl ⟨by rfl, ?_⟩) hHeld ?_ ?_
            rotate_left; (rintro w' ⟨s0, s1⟩; go_simp; with_reducible rfl); rotate_left; (simp only [Act.put, List.setIfInBounds_toArray, List.set_cons_zero, List.set_cons_succ, i64_w, i32_w]; rfl)
            refine take_ (i := 7) (N := some 99) (v := ?_) (a' := ?_) (laws_FnEdgecuts.qB 11 255) rfl rfl (take_ofW HT_.out HW_.out (by kernel_rfl)) (fun _ _ _ h => h) (Or.inl ⟨by rfl, ?_⟩) hHeld ?_ ?_
            rotate_left; (rintro w' ⟨s0, s1⟩; go_simp; with_reducible rfl); rotate_left; (simp only [Act.put, List.setIfInBounds_toArray, List.set_cons_zero, List.set_cons_succ, i64_w, i32_w]; rfl)
            refine pure_ (i := 8) (N := some 100) (v := ?_) (a' := ?_) (laws_FnEdgecuts.qB 11 511) rfl rfl (any_of HT_.out (by kernel_rfl)) (fun _ _ _ h => h) (Or.inl ⟨by rfl, ?_⟩) ?_ ?_
            rotate_left; (intro w'; go_simp; with_reducible rfl); rotate_left; (simp only [Act.put, List.setIfInBounds_toArray, List.set_cons_zero, List.set_cons_succ, i64_w, i32_w]; rfl)
            refine pure_ (i := 9) (N := some 101) (v := ?_) (a' := ?_) (laws_FnEdgecuts.qB 11 1023) rfl rfl (any_of HT_.out (by kernel_rfl)) (fun _ _ _ h => h) (Or.inl ⟨by rfl, ?_⟩) ?_ ?_
            rotate_left; (intro w'; go_simp; with_reducible rfl); rotate_left; (simp only [Act.put, List.setIfInBounds_toArray, List.set_cons_zero, List.set_cons_succ, i64_w, i32_w]; rfl)
            refine pure_ (i := 10) (N := some 9) (v := ?_) (a' := ?_) (laws_FnEdgecuts.qB 11 2047) rfl rfl (any_of HT_.out (by kernel_rfl)) (fun _ _ _ h => h) (Or.inl ⟨by rfl, ?_⟩) ?_ ?_
            rotate_left; (intro w'; go_simp; with_reducible rfl); rotate_left; (simp only [Act.put, List.setIfInBounds_toArray, List.set_cons_zero, List.set_cons_succ, i64_w, i32_w]; rfl)
            refine done_ (done_of HT_.out (by kernel_rfl)) ?_
            try go_wp2
            have n0_ := Aside0.mk (Kd.S_drew HO_5.out)
            have n1_ := Aside0.mk (Kd.R_drew HO_8.out)
            have n2_ := Aside0.mk (Kd.R_drew HL212_0.out)
            have n3_ := Aside0.mk (Kd.C_drew HR212_0.out)
            have n4_ := Aside0.mk (below_drew1 HB.out)
            clear HO_5
            clear HO_8
            clear HL212_0
            clear HR212_0
            clear HB
            have HO_5 := n0_
            have HO_8 := n1_
            have HL212_0 := n2_
            have HR212_0 := n3_
            have HB := n4_
            clear n0_ n1_ n2_ n3_ n4_
            have p215 : 0 ≤ (x83_2 : Int) := of_decide_eq_true (by first | (with_reducible assumption) | assumption)
            have q215 : x83_2 < (t209.length : Int) := of_decide_eq_true (by first | (with_reducible assumption) | assumption)
            obtain ⟨ad215, e215, hx215_0⟩ := Kd.at_int (Kd.R_reads' HO_8.out).2.2 x83_2 p215 q215
            obtain rfl : ad213 = ad215 := (by injection e215)
            replace p215 := eq_true p215
            replace q215 := eq_true q215
            have p216 : 0 ≤ (0 : Int) := (by omega)
            have q216 : 0 < ((rd_L2 t200 x83_2).length : Int) := of_decide_eq_true (by first | (with_reducible assumption) | assumption)
            obtain ⟨ad216, e216, hx216_0⟩ := Kd.at_int (by repeat (first | (with_reducible exact HR212_0.out) | (with_reducible refine Kd.C_alloc ?_ _) | (with_reducible refine Kd.C_drewN ?_ _) | (with_reducible refine Kd.C_drew ?_) | exact HR212_0.out)) 0 p216 q216
            obtain rfl : ad214 = ad216 := (by injection e216)
            have qi216 : (0 < (rd_L2 t200 x83_2).length) = True := eq_true (by omega)
            (try rw [show ((0 : Int)).toNat = 0 from rfl] at hx216_0)
            (try rw [Addr.add_zero'] at hx216_0)
            replace p216 := eq_true p216
            replace q216 := eq_true q216
            have p217 : 0 ≤ (1 : Int) := (by omega)
            have q217 : 1 < ((rd_L2 t200 x83_2).length : Int) := of_decide_eq_true (by first | (with_reducible assumption) | assumption)
            obtain ⟨ad217, e217, hx217_0⟩ := Kd.at_int (by repeat (first | (with_reducible exact HR212_0.out) | (with_reducible refine Kd.C_alloc ?_ _) | (with_reducible refine Kd.C_drewN ?_ _) | (with_reducible refine Kd.C_drew ?_) | exact HR212_0.out)) 1 p217 q217
            obtain rfl : ad214 = ad217 := (by injection e217)
            (try simp only [show (1 : Int).toNat = 1 from rfl, Nat.reduceMul, Nat.reduceEqDiff, Go.Addr.add, ↓reduceIte] at hx217_0)
            have qi217 : (1 < (rd_L2 t200 x83_2).length) = True := eq_true (by omega)
            (try rw [show ((1 : Int)).toNat = 1 from rfl] at hx217_0)
            replace p217 := eq_true p217
            replace q217 := eq_true q217
            as_aux_lemma =>
             refine start_ (n := 15) (S := fun w' => w'.cell? (ad213.add (x83_2).toNat) = some (.int .i64 (rd t209 x83_2)) ∧ w'.cell? ad214 = some (.int .i64 (rd (rd_L2 t200 x83_2) 0)) ∧ w'.cell? ⟨ad214.block, ad214.off + 1, none⟩ = some (.int .i64 (rd (rd_L2 t200 x83_2) 1))) (ds := []) (laws_FnEdgecuts.qB 15 0) (by kernel_rfl) rfl rfl ⟨hx215_0, hx216_0, hx217_0⟩ (fun hHeld => ?_); refine with_tabW laws_FnEdgecuts.tab17 laws_FnEdgecuts.bits17 (fun HT_ HW_ => ?_)
             generalize w59.drew = w60 at HO_5 HO_8 HL212_0 HR212_0 HB hx215_0 hx216_0 hx217_0 hHeld ⊢
             refine pure_ (i := 0) (N := some 102) (v := ?_) (a' := ?_) (laws_FnEdgecuts.qB 15 1) rfl rfl (any_of HT_.out (by kernel_rfl)) (fun _ _ _ h => h) (Or.inl ⟨by rfl, ?_⟩) ?_ ?_
             rotate_left; (intro w'; go_simp; with_reducible rfl); rotate_left; (simp only [Act.put, List.setIfInBounds_toArray, List.set_cons_zero, List.set_cons_succ, i64_w, i32_w]; rfl)
             refine pure_ (i := 1) (N := some 103) (v := ?_) (a' := ?_) (laws_FnEdgecuts.qB 15 3) rfl rfl (any_of HT_.out (by kernel_rfl)) (fun _ _ _ h => h) (Or.inl ⟨by rfl, ?_⟩) ?_ ?_
             rotate_left; (intro w'; go_simp; with_reducible rfl); rotate_left; (simp only [Act.put, List.setIfInBounds_toArray, List.set_cons_zero, List.set_cons_succ, i64_w, i32_w]; rfl)
             refine pure_ (i := 2) (N := some 104) (v := ?_) (a' := ?_) (laws_FnEdgecuts.qB 15 7) rfl rfl (any_of HT_.out (by kernel_rfl)) (fun _ _ _ h => h) (Or.inl ⟨by rfl, ?_⟩) ?_ ?_
             rotate_left; (intro w'; go_simp; with_reducible rfl); rotate_left; (simp only [Act.put, List.setIfInBounds_toArray, List.set_cons_zero, List.set_cons_succ, i64_w, i32_w]; rfl)
             refine pure_ (i := 3) (N := some 105) (v := ?_) (a' := ?_) (laws_FnEdgecuts.qB 15 15) rfl rfl (any_of HT_.out (by kernel_rfl)) (fun _ _ _ h => h) (Or.inl ⟨by rfl, ?_⟩) ?_ ?_
             rotate_left; (intro w'; go_simp; with_reducible rfl); rotate_left; (simp only [Act.put, List.setIfInBounds_toArray, List.set_cons_zero, List.set_cons_succ, i64_w, i32_w]; rfl)
             refine pure_ (i := 5) (N := some 107) (v := ?_) (a' := ?_) (laws_FnEdgecuts.qB 15 47) rfl rfl (any_of HT_.out (by kernel_rfl)) (fun _ _ _ h => h) (Or.inl ⟨by rfl, ?_⟩) ?_ ?_
             rotate_left; (intro w'; go_simp; with_reducible rfl); rotate_left; (simp only [Act.put, List.setIfInBounds_toArray, List.set_cons_zero, List.set_cons_succ, i64_w, i32_w]; rfl)
             refine pure_ (i := 6) (N := some 108) (v := ?_) (a' := ?_) (laws_FnEdgecuts.qB 15 111) rfl rfl (any_of HT_.out (by kernel_rfl)) (fun _ _ _ h => h) (Or.inl ⟨by rfl, ?_⟩) ?_ ?_
             rotate_left; (intro w'; go_simp; with_reducible rfl); rotate_left; (simp only [Act.put, List.setIfInBounds_toArray, List.set_cons_zero, List.set_cons_succ, i64_w, i32_w]; rfl)
             refine pure_ (i := 9) (N := some 111) (v := ?_) (a' := ?_) (laws_FnEdgecuts.qB 15 623) rfl rfl (any_of HT_.out (by kernel_rfl)) (fun _ _ _ h => h) (Or.inl ⟨by rfl, ?_⟩) ?_ ?_
             rotate_left; (intro w'; go_simp; with_reducible rfl); rotate_left; (simp only [Act.put, List.setIfInBounds_toArray, List.set_cons_zero, List.set_cons_succ, i64_w, i32_w]; rfl)
             refine pure_ (i := 10) (N := some 112) (v := ?_) (a' := ?_) (laws_FnEdgecuts.qB 15 1647) rfl rfl (any_of HT_.out (by kernel_rfl)) (fun _ _ _ h => h) (Or.inl ⟨by rfl, ?_⟩) ?_ ?_
             rotate_left; (intro w'; go_simp; with_reducible rfl); rotate_left; (simp only [Act.put, List.setIfInBounds_toArray, List.set_cons_zero, List.set_cons_succ, i64_w, i32_w]; rfl)
             refine take_ (i := 4) (N := some 106) (v := ?_) (a' := ?_) (laws_FnEdgecuts.qB 15 1663) rfl rfl (take_ofW HT_.out HW_.out (by kernel_rfl)) (fun _ _ _ h => h) (Or.inl ⟨by rfl, ?_⟩) hHeld ?_ ?_
             rotate_left; (rintro w' ⟨s0, s1, s2⟩; go_simp; with_reducible rfl); rotate_left; (simp only [Act.put, List.setIfInBounds_toArray, List.set_cons_zero, List.set_cons_succ, i64_w, i32_w]; rfl)
             refine take_ (i := 7) (N := some 109) (v := ?_) (a' := ?_) (laws_FnEdgecuts.qB 15 1791) rfl rfl (take_ofW HT_.out HW_.out (by kernel_rfl)) (fun _ _ _ h => h) (Or.inl ⟨by rfl, ?_⟩) hHeld ?_ ?_
             rotate_left; (rintro w' ⟨s0, s1, s2⟩; go_simp; with_reducible rfl); rotate_left; (simp only [Act.put, List.setIfInBounds_toArray, List.set_cons_zero, List.set_cons_succ, i64_w, i32_w]; rfl)
             refine pure_ (i := 8) (N := some 110) (v := ?_) (a' := ?_) (laws_FnEdgecuts.qB 15 2047) rfl rfl (any_of HT_.out (by kernel_rfl)) (fun _ _ _ h => h) (Or.inl ⟨by rfl, ?_⟩) ?_ ?_
             rotate_left; (intro w'; go_simp; with_reducible rfl); rotate_left; (simp only [Act.put, List.setIfInBounds_toArray, List.set_cons_zero, List.set_cons_succ, i64_w, i32_w]; rfl)
             refine take_ (i := 11) (N := some 113) (v := ?_) (a' := ?_) (laws_FnEdgecuts.qB 15 4095) rfl rfl (take_ofW HT_.out HW_.out (by kernel_rfl)) (fun _ _ _ h => h) (Or.inl ⟨by rfl, ?_⟩) hHeld ?_ ?_
             rotate_left; (rintro w' ⟨s0, s1, s2⟩; go_simp; with_reducible rfl); rotate_left; (simp only [Act.put, List.setIfInBounds_toArray, List.set_cons_zero, List.set_cons_succ, i64_w, i32_w]; rfl)
             refine pure_ (i := 12) (N := some 114) (v := ?_) (a' := ?_) (laws_FnEdgecuts.qB 15 8191) rfl rfl (any_of HT_.out (by kernel_rfl)) (fun _ _ _ h => h) (Or.inl ⟨by rfl, ?_⟩) ?_ ?_
             rotate_left; (intro w'; go_simp; with_reducible rfl); rotate_left; (simp only [Act.put, List.setIfInBounds_toArray, List.set_cons_zero, List.set_cons_succ, i64_w, i32_w]; rfl)
             refine pure_ (i := 13) (N := some 115) (v := ?_) (a' := ?_) (laws_FnEdgecuts.qB 15 16383) rfl rfl (any_of HT_.out (by kernel_rfl)) (fun _ _ _ h => h) (Or.inl ⟨by rfl, ?_⟩) ?_ ?_
             rotate_left; (intro w'; go_simp; with_reducible rfl); rotate_left; (simp only [Act.put, List.setIfInBounds_toArray, List.set_cons_zero, List.set_cons_succ, i64_w, i32_w]; rfl)
             refine pure_ (i := 14) (N := some 10) (v := ?_) (a' := ?_) (laws_FnEdgecuts.qB 15 32767) rfl rfl (any_of HT_.out (by kernel_rfl)) (fun _ _ _ h => h) (Or.inl ⟨by rfl, ?_⟩) ?_ ?_
             rotate_left; (intro w'; go_simp; with_reducible rfl); rotate_left; (simp only [Act.put, List.setIfInBounds_toArray, List.set_cons_zero, List.set_cons_succ, i64_w, i32_w]; rfl)
             refine done_ (done_of HT_.out (by kernel_rfl)) ?_
             have p218 : 0 ≤ (0 : Int) := (by omega)
             have q218 : 0 < ((rd_L2 t200 x83_2).length : Int) := of_decide_eq_true (by first | (with_reducible assumption) | assumption)
             obtain ⟨ad218, e218, hx218_0⟩ := Kd.at_int (by repeat (first | (with_reducible exact HR212_0.out) | (with_reducible refine Kd.C_alloc ?_ _) | (with_reducible refine Kd.C_drewN ?_ _) | (with_reducible refine Kd.C_drew ?_) | exact HR212_0.out)) 0 p218 q218
             obtain rfl : ad214 = ad218 := (by injection e218)
             have qi218 : (0 < (rd_L2 t200 x83_2).length) = True := eq_true (by omega)
             (try rw [show ((0 : Int)).toNat = 0 from rfl] at hx218_0)
             (try rw [Addr.add_zero'] at hx218_0)
             replace p218 := eq_true p218
             replace q218 := eq_true q218
             have p219 : 0 ≤ (1 : Int) := (by omega)
             have q219 : 1 < ((rd_L2 t200 x83_2).length : Int) := of_decide_eq_true (by first | (with_reducible assumption) | assumption)
             obtain ⟨ad219, e219, hx219_0⟩ := Kd.at_int (by repeat (first | (with_reducible exact HR212_0.out) | (with_reducible refine Kd.C_alloc ?_ _) | (with_reducible refine Kd.C_drewN ?_ _) | (with_reducible refine Kd.C_drew ?_) | exact HR212_0.out)) 1 p219 q219
             obtain rfl : ad214 = ad219 := (by injection e219)
             (try simp only [show (1 : Int).toNat = 1 from rfl, Nat.reduceMul, Nat.reduceEqDiff, Go.Addr.add, ↓reduceIte] at hx219_0)
             have qi219 : (1 < (rd_L2 t200 x83_2).length) = True := eq_true (by omega)
             (try rw [show ((1 : Int)).toNat = 1 from rfl] at hx219_0)
             replace p219 := eq_true p219
             replace q219 := eq_true q219
             try go_wp2
             go_roundg k2
             case measure => have := HJ5.out; have := HK2.out; omega
             case rel => exact ⟨(wrap64 (x9_2 + (wrap64 ((rd t209 x83_2) * (rd (rd_L2 t200 x83_2) 2))))), (wrap64 (x10_2 + (wrap64 ((wrap64 ((rd t209 x83_2) * (rd (rd_L2 t200 x83_2) 0))) * (rd (rd_L2 t200 x83_2) 1))))), (wrap64 (x83_2 + 1)), (by first | rfl | (simp; done) | (simp [*]; done)), (by first | rfl | (simp; done) | (simp [*]; done)), (by first | rfl | (simp; done) | (simp [*]; done)), H', ⟨by have := HJ5.out; have := HK2.out; omega⟩, ⟨by (with_reducible repeat (first | apply Kd.S_alloc | apply Kd.S_drewN | apply Kd.S_drew)); exact HO_5.out⟩, ⟨by (with_reducible repeat (first | apply Kd.R_alloc | apply Kd.R_drewN | apply Kd.R_drew)); exact HO_8.out⟩, ⟨by repeat (first | (with_reducible first | exact HB.out | apply below_alloc | apply pw_below_drewN | apply below_drew1) | exact HB.out)⟩⟩
         ·rw [if_neg c49] at H
          have c49b0 : decide ((rd (rd_L2 t200 x83_2) 0) ≤ t198) = false := decide_eq_false c49
          clear c49
          have H' := Aside0.mk H
          clear H
          have p212 : 0 ≤ (x83_2 : Int) := of_decide_eq_true (by first | (with_reducible assumption) | assumption)
          have q212 : x83_2 < (t200.length : Int) := of_decide_eq_true (by first | (with_reducible assumption) | assumption)
          obtain ⟨ad212, A212_0, c212_0, e212, hx212_0, hl212_0, hi212_0⟩ := at_L2 (Kd.S_reads' HO_5.out).2.2 x83_2 p212 q212
          cases e212
          obtain ⟨ce212, hce212, hMe212, hcc212⟩ := Kd.S_get HO_5.out [] x83_2 p212 (by first | exact q212 | exact of_decide_eq_true (by first | (with_reducible assumption) | assumption) | (have e_ := (Kd.S_reads' HO_5.out).1; omega))
          obtain ⟨ve212_0, rfl, ge212_0⟩ := hMe212
          have hv212_0 := hcc212 0 _ rfl
          rw [Nat.add_zero, show ((Kd.slice 3 (Kd.int .i64))).sz = 1 from rfl, Nat.mul_one] at hv212_0
          replace hv212_0 := Option.some.inj (hv212_0.symm.trans hx212_0)
          rw [hv212_0] at ge212_0
          have HL212_0 := Aside0.mk (show Kd.R (Kd.int .i64) 3 _ _ _ _ (rd_L2 t200 x83_2) from ge212_0)
          clear hv212_0 ge212_0
          clear hcc212 hce212
          have HR212_0 := Aside0.mk hi212_0
          have HC212_0 := Aside0.mk hl212_0
          clear hi212_0 hl212_0
          replace p212 := eq_true p212
          replace q212 := eq_true q212
          obtain ⟨Ao61, co61, eo61⟩ := Kd.R_slice HO_8.out
          subst eo61
          try go_wp2
          have n0_ := Aside0.mk (Kd.S_drew HO_5.out)
          have n1_ := Aside0.mk (Kd.R_drew HO_8.out)
          have n2_ := Aside0.mk (Kd.R_drew HL212_0.out)
          have n3_ := Aside0.mk (Kd.C_drew HR212_0.out)
          have n4_ := Aside0.mk (below_drew1 HB.out)
          clear HO_5
          clear HO_8
          clear HL212_0
          clear HR212_0
          clear HB
          have HO_5 := n0_
          have HO_8 := n1_
          have HL212_0 := n2_
          have HR212_0 := n3_
          have HB := n4_
          clear n0_ n1_ n2_ n3_ n4_
          have p213 : 0 ≤ (x83_2 : Int) := of_decide_eq_true (by first | (with_reducible assumption) | assumption)
          have q213 : x83_2 < (t209.length : Int) := of_decide_eq_true (by first | (with_reducible assumption) | assumption)
          obtain ⟨ad213, e213, hx213_0⟩ := Kd.at_int (Kd.R_reads' HO_8.out).2.2 x83_2 p213 q213
          cases e213
          replace p213 := eq_true p213
          replace q213 := eq_true q213
          have p214 : 0 ≤ (2 : Int) := (by omega)
          have q214 : 2 < ((rd_L2 t200 x83_2).length : Int) := of_decide_eq_true (by first | (with_reducible assumption) | assumption)
          obtain ⟨ad214, e214, hx214_0⟩ := Kd.at_int (by repeat (first | (with_reducible exact HR212_0.out) | (with_reducible refine Kd.C_alloc ?_ _) | (with_reducible refine Kd.C_drewN ?_ _) | (with_reducible refine Kd.C_drew ?_) | exact HR212_0.out)) 2 p214 q214
          cases e214
          (try simp only [show (2 : Int).toNat = 2 from rfl, Nat.reduceMul, Nat.reduceEqDiff, Go.Addr.add, ↓reduceIte] at hx214_0)
          have qi214 : (2 < (rd_L2 t200 x83_2).length) = True := eq_true (by omega)
          (try rw [show ((2 : Int)).toNat = 2 from rfl] at hx214_0)
          replace p214 := eq_true p214
          replace q214 := eq_true q214
          as_aux_lemma =>
           refine start_ (n := 11) (S := fun w' => w'.cell? (ad213.add (x83_2).toNat) = some (.int .i64 (rd t209 x83_2)) ∧ w'.cell? ⟨ad214.block, ad214.off + 2, none⟩ = some (.int .i64 (rd (rd_L2 t200 x83_2) 2))) (ds := []) (laws_FnEdgecuts.qB 11 0) (by kernel_rfl) rfl rfl ⟨hx213_0, hx214_0⟩ (fun hHeld => ?_); refine with_tabW laws_FnEdgecuts.tab16 laws_FnEdgecuts.bits16 (fun HT_ HW_ => ?_)
           generalize wr.drew = w62 at HO_5 HO_8 HL212_0 HR212_0 HB hx213_0 hx214_0 hHeld ⊢
           refine pure_ (i := 0) (N := some 92) (v := ?_) (a' := ?_) (laws_FnEdgecuts.qB 11 1) rfl rfl (any_of HT_.out (by kernel_rfl)) (fun _ _ _ h => h) (Or.inl ⟨by rfl, ?_⟩) ?_ ?_
           rotate_left; (intro w'; go_simp; with_reducible rfl); rotate_left; (simp only [Act.put, List.setIfInBounds_toArray, List.set_cons_zero, List.set_cons_succ, i64_w, i32_w]; rfl)
           refine pure_ (i := 1) (N := some 93) (v := ?_) (a' := ?_) (laws_FnEdgecuts.qB 11 3) rfl rfl (any_of HT_.out (by kernel_rfl)) (fun _ _ _ h => h) (Or.inl ⟨by rfl, ?_⟩) ?_ ?_
           rotate_left; (intro w'; go_simp; with_reducible rfl); rotate_left; (simp only [Act.put, List.setIfInBounds_toArray, List.set_cons_zero, List.set_cons_succ, i64_w, i32_w]; rfl)
           refine pure_ (i := 2) (N := some 94) (v := ?_) (a' := ?_) (laws_FnEdgecuts.qB 11 7) rfl rfl (any_of HT_.out (by kernel_rfl)) (fun _ _ _ h => h) (Or.inl ⟨by rfl, ?_⟩) ?_ ?_
           rotate_left; (intro w'; go_simp; with_reducible rfl); rotate_left; (simp only [Act.put, List.setIfInBounds_toArray, List.set_cons_zero, List.set_cons_succ, i64_w, i32_w]; rfl)
           refine pure_ (i := 3) (N := some 95) (v := ?_) (a' := ?_) (laws_FnEdgecuts.qB 11 15) rfl rfl (any_of HT_.out (by kernel_rfl)) (fun _ _ _ h => h) (Or.inl ⟨by rfl, ?_⟩) ?_ ?_
           rotate_left; (intro w'; go_simp; with_reducible rfl); rotate_left; (simp only [Act.put, List.setIfInBounds_toArray, List.set_cons_zero, List.set_cons_succ, i64_w, i32_w]; rfl)
           refine pure_ (i := 5) (N := some 97) (v := ?_) (a' := ?_) (laws_FnEdgecuts.qB 11 47) rfl rfl (any_of HT_.out (by kernel_rfl)) (fun _ _ _ h => h) (Or.inl ⟨by rfl, ?_⟩) ?_ ?_
           rotate_left; (intro w'; go_simp; with_reducible rfl); rotate_left; (simp only [Act.put, List.setIfInBounds_toArray, List.set_cons_zero, List.set_cons_succ, i64_w, i32_w]; rfl)
           refine pure_ (i := 6) (N := some 98) (v := ?_) (a' := ?_) (laws_FnEdgecuts.qB 11 111) rfl rfl (any_of HT_.out (by kernel_rfl)) (fun _ _ _ h => h) (Or.inl ⟨by rfl, ?_⟩) ?_ ?_
           rotate_left; (intro w'; go_simp; with_reducible rfl); rotate_left; (simp only [Act.put, List.setIfInBounds_toArray, List.set_cons_zero, List.set_cons_succ, i64_w, i32_w]; rfl)
           refine take_ (i := 4) (N := some 96) (v := ?_) (a' := ?_) (laws_FnEdgecuts.qB 11 127) rfl rfl (take_ofW HT_.out HW_.out (by kernel_rfl)) (fun _ _ _ h => h) (Or.inl ⟨by rfl, ?_⟩) hHeld ?_ ?_
           rotate_left; (rintro w' ⟨s0, s1⟩; go_simp; with_reducible rfl); rotate_left; (simp only [Act.put, List.setIfInBounds_toArray, List.set_cons_zero, List.set_cons_succ, i64_w, i32_w]; rfl)
           refine take_ (i := 7) (N := some 99) (v := ?_) (a' := ?_) (laws_FnEdgecuts.qB 11 255) rfl rfl (take_ofW HT_.out HW_.out (by kernel_rfl)) (fun _ _ _ h => h) (Or.inl ⟨by rfl, ?_⟩) hHeld ?_ ?_
           rotate_left; (rintro w' ⟨s0, s1⟩; go_simp; with_reducible rfl); rotate_left; (simp only [Act.put, List.setIfInBounds_toArray, List.set_cons_zero, List.set_cons_succ, i64_w, i32_w]; rfl)
           refine pure_ (i := 8) (N := some 100) (v := ?_) (a' := ?_) (laws_FnEdgecuts.qB 11 511) rfl rfl (any_of HT_.out (by kernel_rfl)) (fun _ _ _ h => h) (Or.inl ⟨by rfl, ?_⟩) ?_ ?_
           rotate_left; (intro w'; go_simp; with_reducible rfl); rotate_left; (simp only [Act.put, List.setIfInBounds_toArray, List.set_cons_zero, List.set_cons_succ, i64_w, i32_w]; rfl)
           refine pure_ (i := 9) (N := some 101) (v := ?_) (a' := ?_) (laws_FnEdgecuts.qB 11 1023) rfl rfl (any_of HT_.out (by kernel_rfl)) (fun _ _ _ h => h) (Or.inl ⟨by rfl, ?_⟩) ?_ ?_
           rotate_left; (intro w'; go_simp; with_reducible rfl); rotate_left; (simp only [Act.put, List.setIfInBounds_toArray, List.set_cons_zero, List.set_cons_succ, i64_w, i32_w]; rfl)
           refine pure_ (i := 10) (N := some 9) (v := ?_) (a' := ?_) (laws_FnEdgecuts.qB 11 2047) rfl rfl (any_of HT_.out (by kernel_rfl)) (fun _ _ _ h => h) (Or.inl ⟨by rfl, ?_⟩) ?_ ?_
           rotate_left; (intro w'; go_simp; with_reducible rfl); rotate_left; (simp only [Act.put, List.setIfInBounds_toArray, List.set_cons_zero, List.set_cons_succ, i64_w, i32_w]; rfl)
           refine done_ (done_of HT_.out (by kernel_rfl)) ?_
           try go_wp2
           have n0_ := Aside0.mk (Kd.S_drew HO_5.out)
           have n1_ := Aside0.mk (Kd.R_drew HO_8.out)
           have n2_ := Aside0.mk (Kd.R_drew HL212_0.out)
           have n3_ := Aside0.mk (Kd.C_drew HR212_0.out)
           have n4_ := Aside0.mk (below_drew1 HB.out)
           clear HO_5
           clear HO_8
           clear HL212_0
           clear HR212_0
           clear HB
           have HO_5 := n0_
           have HO_8 := n1_
           have HL212_0 := n2_
           have HR212_0 := n3_
           have HB := n4_
           clear n0_ n1_ n2_ n3_ n4_
           have p215 : 0 ≤ (x83_2 : Int) := of_decide_eq_true (by first | (with_reducible assumption) | assumption)
           have q215 : x83_2 < (t209.length : Int) := of_decide_eq_true (by first | (with_reducible assumption) | assumption)
           obtain ⟨ad215, e215, hx215_0⟩ := Kd.at_int (Kd.R_reads' HO_8.out).2.2 x83_2 p215 q215
           obtain rfl : ad213 = ad215 := (by injection e215)
           replace p215 := eq_true p215
           replace q215 := eq_true q215
           have p216 : 0 ≤ (0 : Int) := (by omega)
           have q216 : 0 < ((rd_L2 t200 x83_2).length : Int) := of_decide_eq_true (by first | (with_reducible assumption) | assumption)
           obtain ⟨ad216, e216, hx216_0⟩ := Kd.at_int (by repeat (first | (with_reducible exact HR212_0.out) | (with_reducible refine Kd.C_alloc ?_ _) | (with_reducible refine Kd.C_drewN ?_ _) | (with_reducible refine Kd.C_drew ?_) | exact HR212_0.out)) 0 p216 q216
           obtain rfl : ad214 = ad216 := (by injection e216)
           have qi216 : (0 < (rd_L2 t200 x83_2).length) = True := eq_true (by omega)
           (try rw [show ((0 : Int)).toNat = 0 from rfl] at hx216_0)
           (try rw [Addr.add_zero'] at hx216_0)
           replace p216 := eq_true p216
           replace q216 := eq_true q216
           have p217 : 0 ≤ (1 : Int) := (by omega)
           have q217 : 1 < ((rd_L2 t200 x83_2).length : Int) := of_decide_eq_true (by first | (with_reducible assumption) | assumption)
           obtain ⟨ad217, e217, hx217_0⟩ := Kd.at_int (by repeat (first | (with_reducible exact HR212_0.out) | (with_reducible refine Kd.C_alloc ?_ _) | (with_reducible refine Kd.C_drewN ?_ _) | (with_reducible refine Kd.C_drew ?_) | exact HR212_0.out)) 1 p217 q217
           obtain rfl : ad214 = ad217 := (by injection e217)
           (try simp only [show (1 : Int).toNat = 1 from rfl, Nat.reduceMul, Nat.reduceEqDiff, Go.Addr.add, ↓reduceIte] at hx217_0)
           have qi217 : (1 < (rd_L2 t200 x83_2).length) = True := eq_true (by omega)
           (try rw [show ((1 : Int)).toNat = 1 from rfl] at hx217_0)
           replace p217 := eq_true p217
           replace q217 := eq_true q217
           as_aux_lemma =>
            refine start_ (n := 15) (S := fun w' => w'.cell? (ad213.add (x83_2).toNat) = some (.int .i64 (rd t209 x83_2)) ∧ w'.cell? ad214 = some (.int .i64 (rd (rd_L2 t200 x83_2) 0)) ∧ w'.cell? ⟨ad214.block, ad214.off + 1, none⟩ = some (.int .i64 (rd (rd_L2 t200 x83_2) 1))) (ds := []) (laws_FnEdgecuts.qB 15 0) (by kernel_rfl) rfl rfl ⟨hx215_0, hx216_0, hx217_0⟩ (fun hHeld => ?_); refine with_tabW laws_FnEdgecuts.tab17 laws_FnEdgecuts.bits17 (fun HT_ HW_ => ?_)
            generalize w62.drew = w63 at HO_5 HO_8 HL212_0 HR212_0 HB hx215_0 hx216_0 hx217_0 hHeld ⊢
            refine pure_ (i := 0) (N := some 102) (v := ?_) (a' := ?_) (laws_FnEdgecuts.qB 15 1) rfl rfl (any_of HT_.out (by kernel_rfl)) (fun _ _ _ h => h) (Or.inl ⟨by rfl, ?_⟩) ?_ ?_
            rotate_left; (intro w'; go_simp; with_reducible rfl); rotate_left; (simp only [Act.put, List.setIfInBounds_toArray, List.set_cons_zero, List.set_cons_succ, i64_w, i32_w]; rfl)
            refine pure_ (i := 1) (N := some 103) (v := ?_) (a' := ?_) (laws_FnEdgecuts.qB 15 3) rfl rfl (any_of HT_.out (by kernel_rfl)) (fun _ _ _ h => h) (Or.inl ⟨by rfl, ?_⟩) ?_ ?_
            rotate_left; (intro w'; go_simp; with_reducible rfl); rotate_left; (simp only [Act.put, List.setIfInBounds_toArray, List.set_cons_zero, List.set_cons_succ, i64_w, i32_w]; rfl)
            refine pure_ (i := 2) (N := some 104) (v := ?_) (a' := ?_) (laws_FnEdgecuts.qB 15 7) rfl rfl (any_of HT_.out (by kernel_rfl)) (fun _ _ _ h => h) (Or.inl ⟨by rfl, ?_⟩) ?_ ?_
            rotate_left; (intro w'; go_simp; with_reducible rfl); rotate_left; (simp only [Act.put, List.setIfInBounds_toArray, List.set_cons_zero, List.set_cons_succ, i64_w, i32_w]; rfl)
            refine pure_ (i := 3) (N := some 105) (v := ?_) (a' := ?_) (laws_FnEdgecuts.qB 15 15) rfl rfl (any_of HT_.out (by kernel_rfl)) (fun _ _ _ h => h) (Or.inl ⟨by rfl, ?_⟩) ?_ ?_
            rotate_left; (intro w'; go_simp; with_reducible rfl); rotate_left; (simp only [Act.put, List.setIfInBounds_toArray, List.set_cons_zero, List.set_cons_succ, i64_w, i32_w]; rfl)
            refine pure_ (i := 5) (N := some 107) (v := ?_) (a' := ?_) (laws_FnEdgecuts.qB 15 47) rfl rfl (any_of HT_.out (by kernel_rfl)) (fun _ _ _ h => h) (Or.inl ⟨by rfl, ?_⟩) ?_ ?_
            rotate_left; (intro w'; go_simp; with_reducible rfl); rotate_left; (simp only [Act.put, List.setIfInBounds_toArray, List.set_cons_zero, List.set_cons_succ, i64_w, i32_w]; rfl)
            refine pure_ (i := 6) (N := some 108) (v := ?_) (a' := ?_) (laws_FnEdgecuts.qB 15 111) rfl rfl (any_of HT_.out (by kernel_rfl)) (fun _ _ _ h => h) (Or.inl ⟨by rfl, ?_⟩) ?_ ?_
            rotate_left; (intro w'; go_simp; with_reducible rfl); rotate_left; (simp only [Act.put, List.setIfInBounds_toArray, List.set_cons_zero, List.set_cons_succ, i64_w, i32_w]; rfl)
            refine pure_ (i := 9) (N := some 111) (v := ?_) (a' := ?_) (laws_FnEdgecuts.qB 15 623) rfl rfl (any_of HT_.out (by kernel_rfl)) (fun _ _ _ h => h) (Or.inl ⟨by rfl, ?_⟩) ?_ ?_
            rotate_left; (intro w'; go_simp; with_reducible rfl); rotate_left; (simp only [Act.put, List.setIfInBounds_toArray, List.set_cons_zero, List.set_cons_succ, i64_w, i32_w]; rfl)
            refine pure_ (i := 10) (N := some 112) (v := ?_) (a' := ?_) (laws_FnEdgecuts.qB 15 1647) rfl rfl (any_of HT_.out (by kernel_rfl)) (fun _ _ _ h => h) (Or.inl ⟨by rfl, ?_⟩) ?_ ?_
            rotate_left; (intro w'; go_simp; with_reducible rfl); rotate_left; (simp only [Act.put, List.setIfInBounds_toArray, List.set_cons_zero, List.set_cons_succ, i64_w, i32_w]; rfl)
            refine take_ (i := 4) (N := some 106) (v := ?_) (a' := ?_) (laws_FnEdgecuts.qB 15 1663) rfl rfl (take_ofW HT_.out HW_.out (by kernel_rfl)) (fun _ _ _ h => h) (Or.inl ⟨by rfl, ?_⟩) hHeld ?_ ?_
            rotate_left; (rintro w' ⟨s0, s1, s2⟩; go_simp; with_reducible rfl); rotate_left; (simp only [Act.put, List.setIfInBounds_toArray, List.set_cons_zero, List.set_cons_succ, i64_w, i32_w]; rfl)
            refine take_ (i := 7) (N := some 109) (v := ?_) (a' := ?_) (laws_FnEdgecuts.qB 15 1791) rfl rfl (take_ofW HT_.out HW_.out (by kernel_rfl)) (fun _ _ _ h => h) (Or.inl ⟨by rfl, ?_⟩) hHeld ?_ ?_
            rotate_left; (rintro w' ⟨s0, s1, s2⟩; go_simp; with_reducible rfl); rotate_left; (simp only [Act.put, List.setIfInBounds_toArray, List.set_cons_zero, List.set_cons_succ, i64_w, i32_w]; rfl)
            refine pure_ (i := 8) (N := some 110) (v := ?_) (a' := ?_) (laws_FnEdgecuts.qB 15 2047) rfl rfl (any_of HT_.out (by kernel_rfl)) (fun _ _ _ h => h) (Or.inl ⟨by rfl, ?_⟩) ?_ ?_
            rotate_left; (intro w'; go_simp; with_reducible rfl); rotate_left; (simp only [Act.put, List.setIfInBounds_toArray, List.set_cons_zero, List.set_cons_succ, i64_w, i32_w]; rfl)
            refine take_ (i := 11) (N := some 113) (v := ?_) (a' := ?_) (laws_FnEdgecuts.qB 15 4095) rfl rfl (take_ofW HT_.out HW_.out (by kernel_rfl)) (fun _ _ _ h => h) (Or.inl ⟨by rfl, ?_⟩) hHeld ?_ ?_
            rotate_left; (rintro w' ⟨s0, s1, s2⟩; go_simp; with_reducible rfl); rotate_left; (simp only [Act.put, List.setIfInBounds_toArray, List.set_cons_zero, List.set_cons_succ, i64_w, i32_w]; rfl)
            refine pure_ (i := 12) (N := some 114) (v := ?_) (a' := ?_) (laws_FnEdgecuts.qB 15 8191) rfl rfl (any_of HT_.out (by kernel_rfl)) (fun _ _ _ h => h) (Or.inl ⟨by rfl, ?_⟩) ?_ ?_
            rotate_left; (intro w'; go_simp; with_reducible rfl); rotate_left; (simp only [Act.put, List.setIfInBounds_toArray, List.set_cons_zero, List.set_cons_succ, i64_w, i32_w]; rfl)
            refine pure_ (i := 13) (N := some 115) (v := ?_) (a' := ?_) (laws_FnEdgecuts.qB 15 16383) rfl rfl (any_of HT_.out (by kernel_rfl)) (fun _ _ _ h => h) (Or.inl ⟨by rfl, ?_⟩) ?_ ?_
            rotate_left; (intro w'; go_simp; with_reducible rfl); rotate_left; (simp only [Act.put, List.setIfInBounds_toArray, List.set_cons_zero, List.set_cons_succ, i64_w, i32_w]; rfl)
            refine pure_ (i := 14) (N := some 10) (v := ?_) (a' := ?_) (laws_FnEdgecuts.qB 15 32767) rfl rfl (any_of HT_.out (by kernel_rfl)) (fun _ _ _ h => h) (Or.inl ⟨by rfl, ?_⟩) ?_ ?_
            rotate_left; (intro w'; go_simp; with_reducible rfl); rotate_left; (simp only [Act.put, List.setIfInBounds_toArray, List.set_cons_zero, List.set_cons_succ, i64_w, i32_w]; rfl)
            refine done_ (done_of HT_.out (by kernel_rfl)) ?_
            have p218 : 0 ≤ (0 : Int) := (by omega)
            have q218 : 0 < ((rd_L2 t200 x83_2).length : Int) := of_decide_eq_true (by first | (with_reducible assumption) | assumption)
            obtain ⟨ad218, e218, hx218_0⟩ := Kd.at_int (by repeat (first | (with_reducible exact HR212_0.out) | (with_reducible refine Kd.C_alloc ?_ _) | (with_reducible refine Kd.C_drewN ?_ _) | (with_reducible refine Kd.C_drew ?_) | exact HR212_0.out)) 0 p218 q218
            obtain rfl : ad214 = ad218 := (by injection e218)
            have qi218 : (0 < (rd_L2 t200 x83_2).length) = True := eq_true (by omega)
            (try rw [show ((0 : Int)).toNat = 0 from rfl] at hx218_0)
            (try rw [Addr.add_zero'] at hx218_0)
            replace p218 := eq_true p218
            replace q218 := eq_true q218
            try go_wp2
            go_roundg k2
            case measure => have := HJ5.out; have := HK2.out; omega
            case rel => exact ⟨(wrap64 (x9_2 + (wrap64 ((rd t209 x83_2) * (rd (rd_L2 t200 x83_2) 2))))), (wrap64 (x10_2 + (wrap64 ((wrap64 ((rd t209 x83_2) * (rd (rd_L2 t200 x83_2) 0))) * (rd (rd_L2 t200 x83_2) 1))))), (wrap64 (x83_2 + 1)), (by first | rfl | (simp; done) | (simp [*]; done)), (by first | rfl | (simp; done) | (simp [*]; done)), (by first | rfl | (simp; done) | (simp [*]; done)), H', ⟨by have := HJ5.out; have := HK2.out; omega⟩, ⟨by (with_reducible repeat (first | apply Kd.S_alloc | apply Kd.S_drewN | apply Kd.S_drew)); exact HO_5.out⟩, ⟨by (with_reducible repeat (first | apply Kd.R_alloc | apply Kd.R_drewN | apply Kd.R_drew)); exact HO_8.out⟩, ⟨by repeat (first | (with_reducible first | exact HB.out | apply below_alloc | apply pw_below_drewN | apply below_drew1) | exact HB.out)⟩⟩
        ·rw [if_neg c40] at H
         have c40b0 : decide (x83_2 < (t200.length : Int)) = false := decide_eq_false c40
         clear c40
         have HC64 := Aside0.mk H
         clear H
         go_upto_region 21 with (fail)
         go_cut [152] (fun v152 wc => ∃ (kq : Nat) (x152_63 : Bool), v152 = .bool x152_63 ∧ Aside0 (laws_FnEdgecuts.j2 kq l0 t198 t199 t200 t203 t204 x152_63 = some r) ∧ Aside0 (kq ≤ k2) ∧ Aside0 (Kd.S (Kd.slice 3 (Kd.int .i64)) 30 wc w.heap.size (fun _ => True) (.slice Ao8 t200.length co8) t200) ∧ Aside0 (Below w.heap.size w wc))
         case first =>
          as_aux_lemma =>
           have H := HC64.out
           clear HC64
           by_cases c65 : x9_2 = t203
           rotate_left
           ·rw [if_neg c65] at H
            exact (laws_FnEdgecuts.j2_dead HT H).elim
           rw [if_pos c65] at H
           have c65b0 : (x9_2 == t203) = true := beq_iff_eq.mpr c65
           have c65b1 : (x9_2 != t203) = false := bne_eq_false_iff_eq.mpr c65
           clear c65
           (first | rw [c65b0] | (simp only [i64_w, i32_w]; rw [c65b0]) | skip)
           by_cases c66 : x10_2 > (wrap64 (t198 * t199))
           ·rw [if_pos c66] at H
            exact (laws_FnEdgecuts.j2_dead HT H).elim
           rw [if_neg c66] at H
           have c66b0 : decide ((wrap64 (t198 * t199)) < x10_2) = false := decide_eq_false c66
           clear c66
           have H' := Aside0.mk H
           clear H
           obtain ⟨Ao67, co67, eo67⟩ := Kd.R_slice HO_8.out
           subst eo67
           go_wp2
           go_meet
           case rel => exact ⟨_, (((t209.length : Int) != (t200.length : Int))), (by first | rfl | (simp; done) | (simp [*]; done)), H', ⟨by have := HJ5.out; have := HK2.out; first | omega | exact Nat.le_refl _⟩, ⟨by (with_reducible repeat (first | apply Kd.S_alloc | apply Kd.S_drewN | apply Kd.S_drew)); exact Kd.S_mono HO_5.out (fun _ hk => trivial)⟩, ⟨by repeat (first | (with_reducible first | exact HB.out | apply below_alloc | apply pw_below_drewN | apply below_drew1) | exact HB.out)⟩⟩
         case rest =>
          as_aux_lemma =>
           clear HC64
           (try clear c2); (try clear p2); (try clear q2); (try clear hx2); (try clear qi2); (try clear c4); (try clear c6); (try clear p6); (try clear c21); (try clear p21); (try clear q21); (try clear hx21); (try clear qi21); (try clear c40); (try clear c40b0); (try clear c41); (try clear c42); (try clear c45); (try clear c46); (try clear c47); (try clear c48); (try clear c49); (try clear c49b0); (try clear p64); (try clear c65); (try clear c65b0); (try clear c65b1); (try clear c66); (try clear c66b0); (try clear hx212_0); (try clear hx213_0); (try clear hx214_0); (try clear hx215_0); (try clear hx216_0); (try clear hx217_0); (try clear hx218_0); (try clear hx219_0); (try clear p212); (try clear p213); (try clear p214); (try clear p215); (try clear p216); (try clear p217); (try clear p218); (try clear p219); (try clear q212); (try clear q213); (try clear q214); (try clear q215); (try clear q216); (try clear q217); (try clear q218); (try clear q219)
           obtain ⟨kq, x152_63, rfl, HA, HJ63, HO_5, HB⟩ := hcut
           cases kq with
           | zero => exact absurd HA.out (by simp [laws_FnEdgecuts.j2])
           | succ kj63 =>
            have H := HA.out
            clear HA
            simp only [laws_FnEdgecuts.j2] at H
            by_cases c68 : x152_63 = true
            ·subst c68
             have H1 : (some false) = some r := by rw [if_pos rfl] at H; exact H
             exact (laws_FnEdgecuts.no_false HT H1).elim
            replace c68 := Bool.eq_false_iff.mpr c68
            subst c68
            have H1 : (laws_FnEdgecuts.l1 kj63 l0 t198 t199 t200 t203 t204 (([] : List (List Int))) (t200.length : Int) 0) = some r := by rw [if_neg (show ¬ (false = true) by decide)] at H; exact H
            clear H
            have H := H1
            clear H1
            obtain ⟨y221, hy221⟩ : ∃ y_ : List (List Int), y_ = (([] : List (List Int))) := ⟨_, rfl⟩
            replace H : (laws_FnEdgecuts.l1 kj63 l0 t198 t199 t200 t203 t204 y221 (t200.length : Int) 0) = some r := by first | (rw [hy221]; with_reducible exact H) | (have H2_ := (Option.bind_some _ _).symm.trans H; rw [hy221]; with_reducible exact H2_) | (have H2_ := (Option.bind_some _ _).symm.trans H; with_reducible exact H2_) | with_reducible exact H | (rw [hy221]; exact H) | exact H
            have Ny221 := Aside0.mk hy221
            clear hy221
            have H' := Aside0.mk H
            clear H
            go_wp2_with (first | ((with_reducible refine gate_dst (N := 153) rfl ?_); (try (refine gate_guard (by rfl) ?_; dsimp only)); refine Kd.S_lit (Kd.slice 3 (Kd.int .i64)) _ 30 ?hg (N := 153) ?hd (xs := ([] : List (List Int))) (inner := []) (ok := fun _ => True) (okp := fun _ => True) ?hr ?hp (fun _ hk => hk) trivial (Below.refl _ _) (Nat.le_refl _) (by simp) ?_; (case hd => rfl); (case hg => rfl); (case hr => first | (go_simp; done) | (go_simp; rfl)); (case hp => exact (Reps.none _ _)); intro v222 w69 ho70 hb hg_ hnew_; clear hg_ hnew_; (first | rw [← Ny221.out] at ho70 | (simp only [Int.reduceToNat] at ho70; rw [← Ny221.out] at ho70)); have n0_ := Aside0.mk (Kd.S_elder' (by (with_reducible repeat (first | apply Kd.S_alloc | apply Kd.S_drewN | apply Kd.S_drew)); exact HO_5.out) (Kd.S_base ho70) hb); have n1_ := Aside0.mk (Kd.S_lower (Kd.S_new' ho70 (Kd.S_lt (by (with_reducible repeat (first | apply Kd.S_alloc | apply Kd.S_drewN | apply Kd.S_drew)); exact HO_5.out))) (below_size (by repeat (first | (with_reducible first | exact HB.out | apply below_alloc | apply pw_below_drewN | apply below_drew1) | exact HB.out)))); have n2_ := Aside0.mk (below_step (by repeat (first | (with_reducible first | exact HB.out | apply below_alloc | apply pw_below_drewN | apply below_drew1) | exact HB.out)) hb); clear HO_5; clear HB; have HO_5 := n0_; have HO223 := n1_; have HB := n2_; clear n0_ n1_ n2_; clear hb ho70))
            go_loopg [13, 156] kj63 (fun kq v13 v156 w' => ∃ (x13_4 : List (List Int)) (x156_4 : Int), v156 = .int .i64 x156_4 ∧ Aside0 (laws_FnEdgecuts.l1 kq l0 t198 t199 t200 t203 t204 x13_4 (t200.length : Int) x156_4 = some r) ∧ Aside0 (kq ≤ kj63) ∧ Aside0 (Kd.S (Kd.slice 3 (Kd.int .i64)) 30 w' w.heap.size (fun k_ => some k_ ≠ (v13 : Value).ownBlock) (.slice Ao8 t200.length co8) t200) ∧ Aside0 (Kd.S (Kd.slice 3 (Kd.int .i64)) 30 w' w.heap.size (fun k_ => some k_ ≠ ((.slice Ao8 t200.length co8) : Value).ownBlock) v13 x13_4) ∧ Aside0 (Below w.heap.size w w'))
            case atStart => exact ⟨(y221), (0), (by first | rfl | (simp; done) | (simp [*]; done)), H', ⟨Nat.le_refl _⟩, ⟨by (with_reducible repeat (first | apply Kd.S_alloc | apply Kd.S_drewN | apply Kd.S_drew)); exact Kd.S_mono HO_5.out (fun _ hk => hk.2)⟩, ⟨by (with_reducible repeat (first | apply Kd.S_alloc | apply Kd.S_drewN | apply Kd.S_drew)); exact Kd.S_mono HO223.out (fun _ hk => hk.2)⟩, ⟨by repeat (first | (with_reducible first | exact HB.out | apply below_alloc | apply pw_below_drewN | apply below_drew1) | exact HB.out)⟩⟩
            case round =>
             as_aux_lemma =>
              clear H'
              (try clear c2); (try clear p2); (try clear q2); (try clear hx2); (try clear qi2); (try clear c4); (try clear c6); (try clear p6); (try clear c21); (try clear p21); (try clear q21); (try clear hx21); (try clear qi21); (try clear c40); (try clear c40b0); (try clear c41); (try clear c42); (try clear c45); (try clear c46); (try clear c47); (try clear c48); (try clear c49); (try clear c49b0); (try clear p64); (try clear c65); (try clear c65b0); (try clear c65b1); (try clear c66); (try clear c66b0); (try clear c68); (try clear hx212_0); (try clear hx213_0); (try clear hx214_0); (try clear hx215_0); (try clear hx216_0); (try clear hx217_0); (try clear hx218_0); (try clear hx219_0); (try clear p2); (try clear p21); (try clear p212); (try clear p213); (try clear p214); (try clear p215); (try clear p216); (try clear p217); (try clear p218); (try clear p219); (try clear p6); (try clear p64); (try clear q2); (try clear q21); (try clear q212); (try clear q213); (try clear q214); (try clear q215); (try clear q216); (try clear q217); (try clear q218); (try clear q219)
              obtain ⟨x13_4, x156_4, rfl, HA, HK4, HO_5, HO_13, HB⟩ := hrel
              cases gk with
              | zero => exact absurd HA.out (by simp [laws_FnEdgecuts.l1])
              | succ k4 =>
               have H := HA.out
               clear HA
               simp only [laws_FnEdgecuts.l1] at H
               by_cases c71 : x156_4 < (t200.length : Int)
               ·rw [if_pos c71] at H
                have c71b0 : decide (x156_4 < (t200.length : Int)) = true := decide_eq_true c71
                clear c71
                by_cases c72 : 0 ≤ x156_4
                rotate_left
                ·rw [if_neg c72] at H
                 exact absurd H (by simp)
                rw [if_pos c72] at H
                have c72b0 : decide (0 ≤ x156_4) = true := decide_eq_true c72
                clear c72
                by_cases c73 : x156_4 < (t200.length : Int)
                rotate_left
                ·rw [if_neg c73] at H
                 exact absurd H (by simp)
                rw [if_pos c73] at H
                have c73b0 : decide (x156_4 < (t200.length : Int)) = true := decide_eq_true c73
                clear c73
                by_cases c74 : 1 < ((rd_L2 t200 x156_4).length : Int)
                rotate_left
                ·rw [if_neg c74] at H
                 exact absurd H (by simp)
                rw [if_pos c74] at H
                have c74b0 : decide (1 < ((rd_L2 t200 x156_4).length : Int)) = true := decide_eq_true c74
                have c74b1 : decide (1 < (rd_L2 t200 x156_4).length) = true := decide_eq_true (by omega)
                clear c74
                by_cases c75 : 0 < ((rd_L2 t200 x156_4).length : Int)
                rotate_left
                ·rw [if_neg c75] at H
                 exact absurd H (by simp)
                rw [if_pos c75] at H
                have c75b0 : decide (0 < ((rd_L2 t200 x156_4).length : Int)) = true := decide_eq_true c75
                have c75b1 : decide (0 < (rd_L2 t200 x156_4).length) = true := decide_eq_true (by omega)
                clear c75
                by_cases c76 : 2 < ((rd_L2 t200 x156_4).length : Int)
                rotate_left
                ·rw [if_neg c76] at H
                 exact absurd H (by simp)
                rw [if_pos c76] at H
                have c76b0 : decide (2 < ((rd_L2 t200 x156_4).length : Int)) = true := decide_eq_true c76
                have c76b1 : decide (2 < (rd_L2 t200 x156_4).length) = true := decide_eq_true (by omega)
                clear c76
                obtain ⟨y228, hy228⟩ : ∃ y_ : List Int, y_ = (([rd (rd_L2 t200 x156_4) 1, rd (rd_L2 t200 x156_4) 0, rd (rd_L2 t200 x156_4) 2] : List Int)) := ⟨_, rfl⟩
                replace H : (if x13_4.length < 5864062014805 then (laws_FnEdgecuts.l1 k4 l0 t198 t199 t200 t203 t204 (x13_4 ++ [y228]) (t200.length : Int) (wrap64 (x156_4 + 1))) else (none)) = some r := by first | (rw [hy228]; with_reducible exact H) | (have H2_ := (Option.bind_some _ _).symm.trans H; rw [hy228]; with_reducible exact H2_) | (have H2_ := (Option.bind_some _ _).symm.trans H; with_reducible exact H2_) | with_reducible exact H | (rw [hy228]; exact H) | exact H
                have Ny228 := Aside0.mk hy228
                clear hy228
                by_cases c77 : x13_4.length < 5864062014805
                rotate_left
                ·rw [if_neg c77] at H
                 exact absurd H (by simp)
                rw [if_pos c77] at H
                have LMc77 := Aside0.mk c77
                clear c77
                obtain ⟨y231, hy231⟩ : ∃ y_ : List (List Int), y_ = (x13_4 ++ [y228]) := ⟨_, rfl⟩
                replace H : (laws_FnEdgecuts.l1 k4 l0 t198 t199 t200 t203 t204 y231 (t200.length : Int) (wrap64 (x156_4 + 1))) = some r := by first | (rw [hy231]; with_reducible exact H) | (have H2_ := (Option.bind_some _ _).symm.trans H; rw [hy231]; with_reducible exact H2_) | (have H2_ := (Option.bind_some _ _).symm.trans H; with_reducible exact H2_) | with_reducible exact H | (rw [hy231]; exact H) | exact H
                have Ny231 := Aside0.mk hy231
                clear hy231
                have H' := Aside0.mk H
                clear H
                have p224 : 0 ≤ (x156_4 : Int) := of_decide_eq_true (by first | (with_reducible assumption) | assumption)
                have q224 : x156_4 < (t200.length : Int) := of_decide_eq_true (by first | (with_reducible assumption) | assumption)
                obtain ⟨ad224, A224_0, c224_0, e224, hx224_0, hl224_0, hi224_0⟩ := at_L2 (Kd.S_reads' HO_5.out).2.2 x156_4 p224 q224
                cases e224
                obtain ⟨ce224, hce224, hMe224, hcc224⟩ := Kd.S_get HO_5.out [] x156_4 p224 (by first | exact q224 | exact of_decide_eq_true (by first | (with_reducible assumption) | assumption) | (have e_ := (Kd.S_reads' HO_5.out).1; omega))
                obtain ⟨ve224_0, rfl, ge224_0⟩ := hMe224
                have hv224_0 := hcc224 0 _ rfl
                rw [Nat.add_zero, show ((Kd.slice 3 (Kd.int .i64))).sz = 1 from rfl, Nat.mul_one] at hv224_0
                replace hv224_0 := Option.some.inj (hv224_0.symm.trans hx224_0)
                rw [hv224_0] at ge224_0
                have HL224_0 := Aside0.mk (show Kd.R (Kd.int .i64) 3 _ _ _ _ (rd_L2 t200 x156_4) from ge224_0)
                clear hv224_0 ge224_0
                clear hcc224 hce224
                have HR224_0 := Aside0.mk hi224_0
                have HC224_0 := Aside0.mk hl224_0
                clear hi224_0 hl224_0
                replace p224 := eq_true p224
                replace q224 := eq_true q224
                try go_wp2
                have n0_ := Aside0.mk (Kd.S_drew HO_5.out)
                have n1_ := Aside0.mk (Kd.S_drew HO_13.out)
                have n2_ := Aside0.mk (Kd.R_drew HL224_0.out)
                have n3_ := Aside0.mk (Kd.C_drew HR224_0.out)
                have n4_ := Aside0.mk (below_drew1 HB.out)
                clear HO_5
                clear HO_13
                clear HL224_0
                clear HR224_0
                clear HB
                have HO_5 := n0_
                have HO_13 := n1_
                have HL224_0 := n2_
                have HR224_0 := n3_
                have HB := n4_
                clear n0_ n1_ n2_ n3_ n4_
                have p225 : 0 ≤ (1 : Int) := (by omega)
                have q225 : 1 < ((rd_L2 t200 x156_4).length : Int) := of_decide_eq_true (by first | (with_reducible assumption) | assumption)
                obtain ⟨ad225, e225, hx225_0⟩ := Kd.at_int (by repeat (first | (with_reducible exact HR224_0.out) | (with_reducible refine Kd.C_alloc ?_ _) | (with_reducible refine Kd.C_drewN ?_ _) | (with_reducible refine Kd.C_drew ?_) | exact HR224_0.out)) 1 p225 q225
                cases e225
                (try simp only [show (1 : Int).toNat = 1 from rfl, Nat.reduceMul, Nat.reduceEqDiff, Go.Addr.add, ↓reduceIte] at hx225_0)
                have qi225 : (1 < (rd_L2 t200 x156_4).length) = True := eq_true (by omega)
                (try rw [show ((1 : Int)).toNat = 1 from rfl] at hx225_0)
                replace p225 := eq_true p225
                replace q225 := eq_true q225
                have p226 : 0 ≤ (0 : Int) := (by omega)
                have q226 : 0 < ((rd_L2 t200 x156_4).length : Int) := of_decide_eq_true (by first | (with_reducible assumption) | assumption)
                obtain ⟨ad226, e226, hx226_0⟩ := Kd.at_int (by repeat (first | (with_reducible exact HR224_0.out) | (with_reducible refine Kd.C_alloc ?_ _) | (with_reducible refine Kd.C_drewN ?_ _) | (with_reducible refine Kd.C_drew ?_) | exact HR224_0.out)) 0 p226 q226
                obtain rfl : ad225 = ad226 := (by injection e226)
                have qi226 : (0 < (rd_L2 t200 x156_4).length) = True := eq_true (by omega)
                (try rw [show ((0 : Int)).toNat = 0 from rfl] at hx226_0)
                (try rw [Addr.add_zero'] at hx226_0)
                replace p226 := eq_true p226
                replace q226 := eq_true q226
                have p227 : 0 ≤ (2 : Int) := (by omega)
                have q227 : 2 < ((rd_L2 t200 x156_4).length : Int) := of_decide_eq_true (by first | (with_reducible assumption) | assumption)
                obtain ⟨ad227, e227, hx227_0⟩ := Kd.at_int (by repeat (first | (with_reducible exact HR224_0.out) | (with_reducible refine Kd.C_alloc ?_ _) | (with_reducible refine Kd.C_drewN ?_ _) | (with_reducible refine Kd.C_drew ?_) | exact HR224_0.out)) 2 p227 q227
                obtain rfl : ad225 = ad227 := (by injection e227)
                (try simp only [show (2 : Int).toNat = 2 from rfl, Nat.reduceMul, Nat.reduceEqDiff, Go.Addr.add, ↓reduceIte] at hx227_0)
                have qi227 : (2 < (rd_L2 t200 x156_4).length) = True := eq_true (by omega)
                (try rw [show ((2 : Int)).toNat = 2 from rfl] at hx227_0)
                replace p227 := eq_true p227
                replace q227 := eq_true q227
                as_aux_lemma =>
                 refine start_ (n := 14) (S := fun w' => w'.cell? ⟨ad225.block, ad225.off + 1, none⟩ = some (.int .i64 (rd (rd_L2 t200 x156_4) 1)) ∧ w'.cell? ad225 = some (.int .i64 (rd (rd_L2 t200 x156_4) 0)) ∧ w'.cell? ⟨ad225.block, ad225.off + 2, none⟩ = some (.int .i64 (rd (rd_L2 t200 x156_4) 2))) (ds := [11, 12]) (laws_FnEdgecuts.qB 14 0) (by kernel_rfl) rfl rfl ⟨hx225_0, hx226_0, hx227_0⟩ (fun hHeld => ?_); refine with_tabW laws_FnEdgecuts.tab27 laws_FnEdgecuts.bits27 (fun HT_ HW_ => ?_)
                 generalize wr.drew = w78 at HO_5 HO_13 HL224_0 HR224_0 HB hx225_0 hx226_0 hx227_0 hHeld ⊢
                 refine pure_ (i := 0) (N := some 160) (v := ?_) (a' := ?_) (laws_FnEdgecuts.qB 14 1) rfl rfl (any_of HT_.out (by kernel_rfl)) (fun _ _ _ h => h) (Or.inl ⟨by rfl, ?_⟩) ?_ ?_
                 rotate_left; (intro w'; go_simp; with_reducible rfl); rotate_left; (simp only [Act.put, List.setIfInBounds_toArray, List.set_cons_zero, List.set_cons_succ, i64_w, i32_w]; rfl)
                 refine pure_ (i := 1) (N := some 161) (v := ?_) (a' := ?_) (laws_FnEdgecuts.qB 14 3) rfl rfl (any_of HT_.out (by kernel_rfl)) (fun _ _ _ h => h) (Or.inl ⟨by rfl, ?_⟩) ?_ ?_
                 rotate_left; (intro w'; go_simp; with_reducible rfl); rotate_left; (simp only [Act.put, List.setIfInBounds_toArray, List.set_cons_zero, List.set_cons_succ, i64_w, i32_w]; rfl)
                 refine pure_ (i := 2) (N := some 162) (v := ?_) (a' := ?_) (laws_FnEdgecuts.qB 14 7) rfl rfl (any_of HT_.out (by kernel_rfl)) (fun _ _ _ h => h) (Or.inl ⟨by rfl, ?_⟩) ?_ ?_
                 rotate_left; (intro w'; go_simp; with_reducible rfl); rotate_left; (simp only [Act.put, List.setIfInBounds_toArray, List.set_cons_zero, List.set_cons_succ, i64_w, i32_w]; rfl)
                 refine pure_ (i := 4) (N := some 164) (v := ?_) (a' := ?_) (laws_FnEdgecuts.qB 14 23) rfl rfl (any_of HT_.out (by kernel_rfl)) (fun _ _ _ h => h) (Or.inl ⟨by rfl, ?_⟩) ?_ ?_
                 rotate_left; (intro w'; go_simp; with_reducible rfl); rotate_left; (simp only [Act.put, List.setIfInBounds_toArray, List.set_cons_zero, List.set_cons_succ, i64_w, i32_w]; rfl)
                 refine pure_ (i := 5) (N := some 165) (v := ?_) (a' := ?_) (laws_FnEdgecuts.qB 14 55) rfl rfl (any_of HT_.out (by kernel_rfl)) (fun _ _ _ h => h) (Or.inl ⟨by rfl, ?_⟩) ?_ ?_
                 rotate_left; (intro w'; go_simp; with_reducible rfl); rotate_left; (simp only [Act.put, List.setIfInBounds_toArray, List.set_cons_zero, List.set_cons_succ, i64_w, i32_w]; rfl)
                 refine pure_ (i := 7) (N := some 167) (v := ?_) (a' := ?_) (laws_FnEdgecuts.qB 14 183) rfl rfl (any_of HT_.out (by kernel_rfl)) (fun _ _ _ h => h) (Or.inl ⟨by rfl, ?_⟩) ?_ ?_
                 rotate_left; (intro w'; go_simp; with_reducible rfl); rotate_left; (simp only [Act.put, List.setIfInBounds_toArray, List.set_cons_zero, List.set_cons_succ, i64_w, i32_w]; rfl)
                 refine pure_ (i := 8) (N := some 168) (v := ?_) (a' := ?_) (laws_FnEdgecuts.qB 14 439) rfl rfl (any_of HT_.out (by kernel_rfl)) (fun _ _ _ h => h) (Or.inl ⟨by rfl, ?_⟩) ?_ ?_
                 rotate_left; (intro w'; go_simp; with_reducible rfl); rotate_left; (simp only [Act.put, List.setIfInBounds_toArray, List.set_cons_zero, List.set_cons_succ, i64_w, i32_w]; rfl)
                 refine take_ (i := 3) (N := some 163) (v := ?_) (a' := ?_) (laws_FnEdgecuts.qB 14 447) rfl rfl (take_ofW HT_.out HW_.out (by kernel_rfl)) (fun _ _ _ h => h) (Or.inl ⟨by rfl, ?_⟩) hHeld ?_ ?_
                 rotate_left; (rintro w' ⟨s0, s1, s2⟩; go_simp; with_reducible rfl); rotate_left; (simp only [Act.put, List.setIfInBounds_toArray, List.set_cons_zero, List.set_cons_succ, i64_w, i32_w]; rfl)
                 refine take_ (i := 6) (N := some 166) (v := ?_) (a' := ?_) (laws_FnEdgecuts.qB 14 511) rfl rfl (take_ofW HT_.out HW_.out (by kernel_rfl)) (fun _ _ _ h => h) (Or.inl ⟨by rfl, ?_⟩) hHeld ?_ ?_
                 rotate_left; (rintro w' ⟨s0, s1, s2⟩; go_simp; with_reducible rfl); rotate_left; (simp only [Act.put, List.setIfInBounds_toArray, List.set_cons_zero, List.set_cons_succ, i64_w, i32_w]; rfl)
                 refine take_ (i := 9) (N := some 169) (v := ?_) (a' := ?_) (laws_FnEdgecuts.qB 14 1023) rfl rfl (take_ofW HT_.out HW_.out (by kernel_rfl)) (fun _ _ _ h => h) (Or.inl ⟨by rfl, ?_⟩) hHeld ?_ ?_
                 rotate_left; (rintro w' ⟨s0, s1, s2⟩; go_simp; with_reducible rfl); rotate_left; (simp only [Act.put, List.setIfInBounds_toArray, List.set_cons_zero, List.set_cons_succ, i64_w, i32_w]; rfl)
                 refine one_ (i := 10) (N := some 170) (laws_FnEdgecuts.qB 14 2047) rfl rfl (one_of HT_.out (by kernel_rfl)) (by decide) (fun K hK => ?_)
                 refine Kd.R_lit_step (Kd.int .i64) _ 3 ?hg (N := 170) ?hd (xs := ([rd (rd_L2 t200 x156_4) 1, rd (rd_L2 t200 x156_4) 0, rd (rd_L2 t200 x156_4) 2] : List Int)) (inner := [.int .i64 (rd (rd_L2 t200 x156_4) 1), .int .i64 (rd (rd_L2 t200 x156_4) 0), .int .i64 (rd (rd_L2 t200 x156_4) 2)]) (ok := fun _ => True) (okp := fun _ => True) ?hr ?hp (fun _ hk => hk) trivial (Below.refl _ _) (Nat.le_refl _) (by simp) ?_; (case hd => rfl); (case hg => rfl); (case hr => first | (go_simp; done) | (go_simp; rfl)); (case hp => exact (Reps.one (show Kd.M (Kd.int .i64) _ _ _ (rd (rd_L2 t200 x156_4) 1) [.int .i64 (rd (rd_L2 t200 x156_4) 1)] from rfl) (Reps.one (show Kd.M (Kd.int .i64) _ _ _ (rd (rd_L2 t200 x156_4) 0) [.int .i64 (rd (rd_L2 t200 x156_4) 0)] from rfl) (Reps.one (show Kd.M (Kd.int .i64) _ _ _ (rd (rd_L2 t200 x156_4) 2) [.int .i64 (rd (rd_L2 t200 x156_4) 2)] from rfl) (Reps.none _ _)))))
                 intro v229 w79 ho80 hb hg_ hnew_
                 have HS0_ := (hb.cell (World.block_lt_of_cell? _ _ (hHeld.1))).trans (hHeld.1)
                 have HS1_ := (hb.cell (World.block_lt_of_cell? _ _ (hHeld.2.1))).trans (hHeld.2.1)
                 have HS2_ := (hb.cell (World.block_lt_of_cell? _ _ (hHeld.2.2))).trans (hHeld.2.2)
                 clear hg_ hnew_
                 (first | rw [← Ny228.out] at ho80 | (simp only [Int.reduceToNat] at ho80; rw [← Ny228.out] at ho80))
                 have n0_ := Aside0.mk (Kd.S_elder' (by (with_reducible repeat (first | apply Kd.S_alloc | apply Kd.S_drewN | apply Kd.S_drew)); exact HO_5.out) (Kd.R_base ho80) hb)
                 have n1_ := Aside0.mk (Kd.S_elder' (by (with_reducible repeat (first | apply Kd.S_alloc | apply Kd.S_drewN | apply Kd.S_drew)); exact HO_13.out) (Kd.R_base ho80) hb)
                 have n2_ := Aside0.mk (Kd.R_elder' (by (with_reducible repeat (first | apply Kd.R_alloc | apply Kd.R_drewN | apply Kd.R_drew)); exact HL224_0.out) (Kd.R_base ho80) hb)
                 have n3_ := Aside0.mk (Kd.R_lower (Kd.R_new' ho80 (Kd.R_lt (by (with_reducible repeat (first | apply Kd.R_alloc | apply Kd.R_drewN | apply Kd.R_drew)); exact HL224_0.out))) (below_size (by repeat (first | (with_reducible first | exact HB.out | apply below_alloc | apply pw_below_drewN | apply below_drew1) | exact HB.out))))
                 have n4_ := Aside0.mk (Kd.C_below (by repeat (first | (with_reducible exact HR224_0.out) | (with_reducible refine Kd.C_alloc ?_ _) | (with_reducible refine Kd.C_drewN ?_ _) | (with_reducible refine Kd.C_drew ?_) | exact HR224_0.out)) hb)
                 have n5_ := Aside0.mk (below_step (by repeat (first | (with_reducible first | exact HB.out | apply below_alloc | apply pw_below_drewN | apply below_drew1) | exact HB.out)) hb)
                 clear HO_5
                 clear HO_13
                 clear HL224_0
                 clear HR224_0
                 clear HB
                 have HO_5 := n0_
                 have HO_13 := n1_
                 have HL224_0 := n2_
                 have HO230 := n3_
                 have HR224_0 := n4_
                 have HB := n5_
                 clear n0_ n1_ n2_ n3_ n4_ n5_
                 clear hb ho80
                 obtain ⟨Ao82, co82, eo82⟩ := Kd.R_slice HO230.out
                 (first | subst eo82 | (injection eo82 with f1_ f2_ f3_; have f4_ := f1_.symm; have f5_ := f3_.symm; clear f1_ f2_ f3_; subst f4_; subst f5_))
                 refine hK.out _ _ ⟨HS0_, HS1_, HS2_⟩ (fun hHeld => ?_)
                 clear hK K
                 refine norm_ (a' := ?_) ?_ ?_
                 rotate_left
                 ·show Act.put _ (some 170) _ = _
                  simp only [Act.put, List.setIfInBounds_toArray, List.set_cons_zero, List.set_cons_succ, i64_w, i32_w]
                  rfl
                 refine last_ (i := 11) (N := some 171) (laws_FnEdgecuts.qB 14 4095) rfl rfl (one_of HT_.out (by kernel_rfl)) (by decide) (fun K hK => ?_)
                 refine value_ (w1 := ?_) (v := ?_) (by rfl) rfl ?_ ?_
                 rotate_left 2
                 ·go_simp
                  constructor
                  ·rfl
                  ·rfl
                 refine hK.out _ _ ?_
                 clear hK K
                 refine norm_ (a' := ?_) ?_ ?_
                 rotate_left
                 ·show Act.put _ (some 171) _ = _
                  simp only [Act.put, List.setIfInBounds_toArray, List.set_cons_zero, List.set_cons_succ, i64_w, i32_w]
                  rfl
                 refine last_ (i := 12) (N := some 172) (laws_FnEdgecuts.qB 14 8191) rfl rfl (one_of HT_.out (by kernel_rfl)) (by decide) (fun K hK => ?_)
                 refine Kd.S_append_step (Kd.slice 3 (Kd.int .i64)) (w0 := w) w.heap.size (by rfl) (.tmp 160) (.tmp 171) 23 30 (.slice none 0 0) 24 rfl Tryd.underlying23 info30 rfl (by decide) (by omega) u13 x13_4 y228 [.slice Ao82 y228.length co82] (fun k_ => some k_ ≠ (.slice (some ad224) t200.length co8 : Value).ownBlock) (fun k_ => some k_ = (.slice Ao82 y228.length co82 : Value).ownBlock) rfl rfl ?aP (fun k_ hk_ => ((Kd.R_mono (ok' := fun k_ => ((fun k_ => some k_ ≠ (.slice (some ad224) t200.length co8 : Value).ownBlock)) k_ ∧ some k_ ≠ (u13 : Value).ownBlock) (Kd.R_apart' (Kd.R_apart' (HO230.out) (Kd.S_typed HO_5.out) (by decide)) (Kd.S_typed HO_13.out) (by decide)) (fun k_ hk => ⟨hk.1.2, hk.2⟩))).1 k_ hk_.symm) ?aF ?aO ?aB ?aS ?aL ?_
                 (case aP => exact Kd.M_row (Kd.R_mono (Kd.R_tight rfl (Kd.R_mono (ok' := fun k_ => ((fun k_ => some k_ ≠ (.slice (some ad224) t200.length co8 : Value).ownBlock)) k_ ∧ some k_ ≠ (u13 : Value).ownBlock) (Kd.R_apart' (Kd.R_apart' (HO230.out) (Kd.S_typed HO_5.out) (by decide)) (Kd.S_typed HO_13.out) (by decide)) (fun k_ hk => ⟨hk.1.2, hk.2⟩))) (fun _ h_ => h_)))
                 (case aB => exact (by repeat (first | (with_reducible first | exact HB.out | apply below_alloc | apply pw_below_drewN | apply below_drew1) | exact HB.out)))
                 (case aF => exact (fun k_ hk => Kd.fresh' (Kd.S_lt (by (with_reducible repeat (first | apply Kd.S_alloc | apply Kd.S_drewN | apply Kd.S_drew)); exact HO_5.out)) k_ hk))
                 (case aO => exact (by (with_reducible repeat (first | apply Kd.S_alloc | apply Kd.S_drewN | apply Kd.S_drew)); exact Kd.S_mono HO_13.out (fun k_ hk => ⟨hk.1, fun e_ => hk.2 e_⟩)))
                 (case aS => exact (below_size (by repeat (first | (with_reducible first | exact HB.out | apply below_alloc | apply pw_below_drewN | apply below_drew1) | exact HB.out))))
                 (case aL => have := LMc77.out; omega)
                 intro v232 w81 ho hb hg hat
                 rw [← Ny231.out] at ho
                 have n0_ := Aside0.mk (Kd.S_after (ok := (fun k_ => some k_ ≠ (.slice Ao82 y228.length co82 : Value).ownBlock)) (by (with_reducible repeat (first | apply Kd.S_alloc | apply Kd.S_drewN | apply Kd.S_drew)); exact Kd.S_mono HO_5.out (fun _ hk => ⟨hk.2, hk.1⟩)) hg hat)
                 have n1_ := Aside0.mk (Kd.R_after (ok := (fun k_ => some k_ ≠ (.slice (some ad224) t200.length co8 : Value).ownBlock ∧ some k_ ≠ (.slice Ao82 y228.length co82 : Value).ownBlock)) (by (with_reducible repeat (first | apply Kd.R_alloc | apply Kd.R_drewN | apply Kd.R_drew)); exact Kd.R_mono HL224_0.out (fun _ hk => ⟨⟨hk.1.2, hk.2⟩, hk.1.1⟩)) hg hat)
                 have n2_ := Aside0.mk (hb)
                 have n3_ := Aside0.mk (ho)
                 clear HO_5
                 clear HL224_0
                 clear HB
                 clear HO_13
                 clear HO230
                 have HO_5 := n0_
                 have HL224_0 := n1_
                 have HB := n2_
                 have HO233 := n3_
                 clear n0_ n1_ n2_ n3_
                 clear ho hb hg hat
                 refine hK.out _ _ ?_
                 clear hK K
                 refine norm_ (a' := ?_) ?_ ?_
                 rotate_left
                 ·show Act.put _ (some 172) _ = _
                  simp only [Act.put, List.setIfInBounds_toArray, List.set_cons_zero, List.set_cons_succ, i64_w, i32_w]
                  rfl
                 refine pure_ (i := 13) (N := some 13) (v := ?_) (a' := ?_) (laws_FnEdgecuts.qB 14 16383) rfl rfl (any_of HT_.out (by kernel_rfl)) (fun _ _ _ h => h) (Or.inl ⟨by rfl, ?_⟩) ?_ ?_
                 rotate_left; (intro w'; go_simp; with_reducible rfl); rotate_left; (simp only [Act.put, List.setIfInBounds_toArray, List.set_cons_zero, List.set_cons_succ, i64_w, i32_w]; rfl)
                 refine done_ (done_of HT_.out (by kernel_rfl)) ?_
                 try go_wp2
                 go_roundg k4
                 case measure => have := HJ5.out; have := HK2.out; have := HJ63.out; have := HK4.out; omega
                 case rel => exact ⟨(y231), (wrap64 (x156_4 + 1)), (by first | rfl | (simp; done) | (simp [*]; done)), H', ⟨by have := HJ5.out; have := HK2.out; have := HJ63.out; have := HK4.out; omega⟩, ⟨by (with_reducible repeat (first | apply Kd.S_alloc | apply Kd.S_drewN | apply Kd.S_drew)); exact Kd.S_mono HO_5.out (fun _ hk => hk.2)⟩, ⟨by (with_reducible repeat (first | apply Kd.S_alloc | apply Kd.S_drewN | apply Kd.S_drew)); exact HO233.out⟩, ⟨by repeat (first | (with_reducible first | exact HB.out | apply below_alloc | apply pw_below_drewN | apply below_drew1) | exact HB.out)⟩⟩
               ·rw [if_neg c71] at H
                have c71b0 : decide (x156_4 < (t200.length : Int)) = false := decide_eq_false c71
                clear c71
                replace H := Option.bind_eq_some_iff.mp H
                obtain ⟨t234, A830, H⟩ := H
                replace H : ((impl_BestValue.f k4 t199 t198 x13_4).bind fun t235 => (if t235 = t203 then ((impl_CountCutsOf.f t204).bind fun t236 => (if t236 < 0 then (laws_FnEdgecuts.j4 k4 t198 t199 t200 t203 t234 true) else ((impl_CountCutsOf.f t204).bind fun t237 => (laws_FnEdgecuts.j4 k4 t198 t199 t200 t203 t234 (decide (t237 > (wrap64 ((wrap64 (2 * t198)) * t199)))))))) else (laws_FnEdgecuts.j4 k4 t198 t199 t200 t203 t234 true))) = some r := H
                have A83 := Aside0.mk A830
                clear A830
                have HC84 := Aside0.mk H
                clear H
                go_upto_region 30 with (first | ((with_reducible refine gate_callee (f := 13) rfl ?_); refine goesL_ (some 175) rfl rfl Tryd.func13 (by kernel_rfl) rfl #[.slice A0 l0.length c0, .int .i64 40, .int .i64 1, .int .i64 7] rfl (by (try simp only [List.map_toArray, List.map_cons, List.map_nil]); first | done | rfl | (simp only [List.length_drop, List.length_take]; rfl)) ?_; (with_reducible refine (spec_MakeSize.calls k4 _ _ l0 40 1 7 t234 _ ?side1 ?side2 A83.out).mono ?_); (case side1 => repeat (first | exact (Kd.C_below HR0.out HB.out) | (with_reducible refine Kd.C_alloc ?_ _) | (with_reducible refine Kd.C_drewN ?_ _) | (with_reducible refine Kd.C_drew ?_))); (case side2 => exact HC0.out); rintro e w85 ⟨rfl, hb⟩; refine ⟨_, rfl, ?_⟩; have n0_ := Aside0.mk (Kd.S_below (by (with_reducible repeat (first | apply Kd.S_alloc | apply Kd.S_drewN | apply Kd.S_drew)); exact HO_5.out) hb); have n1_ := Aside0.mk (Kd.S_below (by (with_reducible repeat (first | apply Kd.S_alloc | apply Kd.S_drewN | apply Kd.S_drew)); exact HO_13.out) hb); have n2_ := Aside0.mk (below_step (by repeat (first | (with_reducible first | exact HB.out | apply below_alloc | apply pw_below_drewN | apply below_drew1) | exact HB.out)) hb); clear HO_5; clear HO_13; clear HB; have HO_5 := n0_; have HO_13 := n1_; have HB := n2_; clear n0_ n1_ n2_; (try clear hb); (try clear hb2); (try clear hk); (try clear hi)))
                (try simp only [Act.put, List.setIfInBounds_toArray, List.set_cons_zero, List.set_cons_succ])
                go_cut [195] (fun v195 wc => ∃ (kq : Nat) (x195_83 : Bool), v195 = .bool x195_83 ∧ Aside0 (laws_FnEdgecuts.j4 kq t198 t199 t200 t203 t234 x195_83 = some r) ∧ Aside0 (kq ≤ k4) ∧ Aside0 (Kd.S (Kd.slice 3 (Kd.int .i64)) 30 wc w.heap.size (fun _ => True) (.slice Ao8 t200.length co8) t200) ∧ Aside0 (Below w.heap.size w wc))
                case first =>
                 as_aux_lemma =>
                  have H := HC84.out
                  clear HC84
                  replace H := Option.bind_eq_some_iff.mp H
                  obtain ⟨t235, A860, H⟩ := H
                  replace H : (if t235 = t203 then ((impl_CountCutsOf.f t204).bind fun t236 => (if t236 < 0 then (laws_FnEdgecuts.j4 k4 t198 t199 t200 t203 t234 true) else ((impl_CountCutsOf.f t204).bind fun t237 => (laws_FnEdgecuts.j4 k4 t198 t199 t200 t203 t234 (decide (t237 > (wrap64 ((wrap64 (2 * t198)) * t199)))))))) else (laws_FnEdgecuts.j4 k4 t198 t199 t200 t203 t234 true)) = some r := H
                  have A86 := Aside0.mk A860
                  clear A860
                  by_cases c87 : t235 = t203
                  rotate_left
                  ·rw [if_neg c87] at H
                   exact (laws_FnEdgecuts.j4_dead HT H).elim
                  rw [if_pos c87] at H
                  have c87b0 : (t235 == t203) = true := beq_iff_eq.mpr c87
                  have c87b1 : (t235 != t203) = false := bne_eq_false_iff_eq.mpr c87
                  clear c87
                  (first | rw [c87b0] | (simp only [i64_w, i32_w]; rw [c87b0]) | skip)
                  replace H := Option.bind_eq_some_iff.mp H
                  obtain ⟨t236, A880, H⟩ := H
                  replace H : (if t236 < 0 then (laws_FnEdgecuts.j4 k4 t198 t199 t200 t203 t234 true) else ((impl_CountCutsOf.f t204).bind fun t237 => (laws_FnEdgecuts.j4 k4 t198 t199 t200 t203 t234 (decide (t237 > (wrap64 ((wrap64 (2 * t198)) * t199))))))) = some r := H
                  have A88 := Aside0.mk A880
                  clear A880
                  by_cases c89 : t236 < 0
                  ·rw [if_pos c89] at H
                   exact (laws_FnEdgecuts.j4_dead HT H).elim
                  rw [if_neg c89] at H
                  have c89b0 : decide (t236 < 0) = false := decide_eq_false c89
                  clear c89
                  replace H := Option.bind_eq_some_iff.mp H
                  obtain ⟨t237, A920, H⟩ := H
                  replace H : (laws_FnEdgecuts.j4 k4 t198 t199 t200 t203 t234 (decide (t237 > (wrap64 ((wrap64 (2 * t198)) * t199))))) = some r := H
                  have A92 := Aside0.mk A920
                  clear A920
                  obtain rfl : t236 = t237 := Option.some.inj (A88.out.symm.trans A92.out)
                  have H' := Aside0.mk H
                  clear H
                  obtain ⟨Ao93, co93, eo93⟩ := Kd.S_slice HO_13.out
                  subst eo93
                  go_wp2_with (first | (go_at_call 7; (with_reducible refine (impl_BestValue.calls k4 t199 t198 _ _ x13_4 t235 _ ?side1 ?side2 A86.out).mono ?_); (case side1 => repeat (first | exact (Kd.S_reads' HO_13.out).2.2 | (with_reducible refine Kd.C_alloc ?_ _) | (with_reducible refine Kd.C_drewN ?_ _) | (with_reducible refine Kd.C_drew ?_))); (case side2 => exact (Kd.S_reads' HO_13.out).2.1); rintro e w94 ⟨rfl, hb⟩; have n0_ := Aside0.mk (Kd.S_below (by (with_reducible repeat (first | apply Kd.S_alloc | apply Kd.S_drewN | apply Kd.S_drew)); exact HO_5.out) hb); have n1_ := Aside0.mk (Kd.S_below (by (with_reducible repeat (first | apply Kd.S_alloc | apply Kd.S_drewN | apply Kd.S_drew)); exact HO_13.out) hb); have n2_ := Aside0.mk (below_step (by repeat (first | (with_reducible first | exact HB.out | apply below_alloc | apply pw_below_drewN | apply below_drew1) | exact HB.out)) hb); clear HO_5; clear HO_13; clear HB; have HO_5 := n0_; have HO_13 := n1_; have HB := n2_; clear n0_ n1_ n2_; (try clear hb); (try clear hb2); (try clear hk); (try clear hi)) | (go_at_call 14; (with_reducible refine (impl_CountCutsOf.calls t204 t236 _ A88.out).mono ?_); rintro e w' ⟨rfl, ⟨nd, rfl⟩⟩) | (go_at_call 14; (with_reducible refine (impl_CountCutsOf.calls t204 t236 _ A92.out).mono ?_); rintro e w' ⟨rfl, ⟨nd, rfl⟩⟩))
                  go_meet
                  case rel => exact ⟨_, (decide (t236 > (wrap64 ((wrap64 (2 * t198)) * t199)))), (by first | rfl | (simp; done) | (simp [*]; done)), H', ⟨by have := HJ5.out; have := HK2.out; have := HJ63.out; have := HK4.out; first | omega | exact Nat.le_refl _⟩, ⟨by (with_reducible repeat (first | apply Kd.S_alloc | apply Kd.S_drewN | apply Kd.S_drew)); exact Kd.S_mono HO_5.out (fun _ hk => trivial)⟩, ⟨by repeat (first | (with_reducible first | exact HB.out | apply below_alloc | apply pw_below_drewN | apply below_drew1) | exact HB.out)⟩⟩
                case rest =>
                 as_aux_lemma =>
                  clear HC84
                  (try clear c1); (try clear c2); (try clear p2); (try clear q2); (try clear hx2); (try clear qi2); (try clear c4); (try clear c6); (try clear p6); (try clear c7); (try clear c8); (try clear c13); (try clear c21); (try clear p21); (try clear q21); (try clear hx21); (try clear qi21); (try clear c22); (try clear p22); (try clear q22); (try clear hx22); (try clear qi22); (try clear c40); (try clear c40b0); (try clear c41); (try clear c42); (try clear c45); (try clear c46); (try clear c47); (try clear c48); (try clear c49); (try clear c49b0); (try clear p64); (try clear c65); (try clear c65b0); (try clear c65b1); (try clear c66); (try clear c66b0); (try clear c68); (try clear c71); (try clear c71b0); (try clear c72); (try clear c72b0); (try clear c73); (try clear c73b0); (try clear c74); (try clear c74b0); (try clear c74b1); (try clear c75); (try clear c75b0); (try clear c75b1); (try clear c76); (try clear c76b0); (try clear c76b1); (try clear c77); (try clear c87); (try clear c87b0); (try clear c87b1); (try clear c89); (try clear c89b0); (try clear hx212_0); (try clear hx213_0); (try clear hx214_0); (try clear hx215_0); (try clear hx216_0); (try clear hx217_0); (try clear hx218_0); (try clear hx219_0); (try clear hx224_0); (try clear hx225_0); (try clear hx226_0); (try clear hx227_0); (try clear p2); (try clear p21); (try clear p212); (try clear p213); (try clear p214); (try clear p215); (try clear p216); (try clear p217); (try clear p218); (try clear p219); (try clear p224); (try clear p225); (try clear p226); (try clear p227); (try clear p6); (try clear p64); (try clear q2); (try clear q21); (try clear q212); (try clear q213); (try clear q214); (try clear q215); (try clear q216); (try clear q217); (try clear q218); (try clear q219); (try clear q224); (try clear q225); (try clear q226); (try clear q227)
                  obtain ⟨kq, x195_83, rfl, HA, HJ83, HO_5, HB⟩ := hcut
                  cases kq with
                  | zero => exact absurd HA.out (by simp [laws_FnEdgecuts.j4])
                  | succ kj83 =>
                   have H := HA.out
                   clear HA
                   simp only [laws_FnEdgecuts.j4] at H
                   by_cases c97 : x195_83 = true
                   ·subst c97
                    have H1 : (some false) = some r := by rw [if_pos rfl] at H; exact H
                    exact (laws_FnEdgecuts.no_false HT H1).elim
                   replace c97 := Bool.eq_false_iff.mpr c97
                   subst c97
                   have H1 : (if t234 < t198 then ((impl_BestValue.f kj83 t234 t199 t200).bind fun t238 => ((impl_BestValue.f kj83 (wrap64 (t198 - t234)) t199 t200).bind fun t239 => (if (wrap64 (t238 + t239)) > t203 then (laws_FnEdgecuts.j5 kj83 t198 t199 t200 true) else (if t234 < t199 then ((impl_BestValue.f kj83 t198 t234 t200).bind fun t240 => ((impl_BestValue.f kj83 t198 (wrap64 (t199 - t234)) t200).bind fun t241 => (laws_FnEdgecuts.j5 kj83 t198 t199 t200 (decide ((wrap64 (t240 + t241)) > t203))))) else (laws_FnEdgecuts.j5 kj83 t198 t199 t200 false))))) else (if t234 < t199 then ((impl_BestValue.f kj83 t198 t234 t200).bind fun t242 => ((impl_BestValue.f kj83 t198 (wrap64 (t199 - t234)) t200).bind fun t243 => (laws_FnEdgecuts.j5 kj83 t198 t199 t200 (decide ((wrap64 (t242 + t243)) > t203))))) else (laws_FnEdgecuts.j5 kj83 t198 t199 t200 false))) = some r := by rw [if_neg (show ¬ (false = true) by decide)] at H; exact H
                   clear H
                   have H := H1
                   clear H1
                   have HC98 := Aside0.mk H
                   clear H
                   go_upto_region 32 with (fail)
                   go_cut [233] (fun v233 wc => ∃ (kq : Nat) (x233_97 : Bool), v233 = .bool x233_97 ∧ Aside0 (laws_FnEdgecuts.j5 kq t198 t199 t200 x233_97 = some r) ∧ Aside0 (kq ≤ kj83) ∧ Aside0 (Kd.S (Kd.slice 3 (Kd.int .i64)) 30 wc w.heap.size (fun _ => True) (.slice Ao8 t200.length co8) t200) ∧ Aside0 (Below w.heap.size w wc))
                   case first =>
                    as_aux_lemma =>
                     have H := HC98.out
                     clear HC98
                     by_cases c99 : t234 < t198
                     ·rw [if_pos c99] at H
                      have c99b0 : decide (t234 < t198) = true := decide_eq_true c99
                      clear c99
                      (first | rw [c99b0] | (simp only [i64_w, i32_w]; rw [c99b0]) | skip)
                      replace H := Option.bind_eq_some_iff.mp H
                      obtain ⟨t238, A1000, H⟩ := H
                      replace H : ((impl_BestValue.f kj83 (wrap64 (t198 - t234)) t199 t200).bind fun t239 => (if (wrap64 (t238 + t239)) > t203 then (laws_FnEdgecuts.j5 kj83 t198 t199 t200 true) else (if t234 < t199 then ((impl_BestValue.f kj83 t198 t234 t200).bind fun t240 => ((impl_BestValue.f kj83 t198 (wrap64 (t199 - t234)) t200).bind fun t241 => (laws_FnEdgecuts.j5 kj83 t198 t199 t200 (decide ((wrap64 (t240 + t241)) > t203))))) else (laws_FnEdgecuts.j5 kj83 t198 t199 t200 false)))) = some r := H
                      have A100 := Aside0.mk A1000
                      clear A1000
                      replace H := Option.bind_eq_some_iff.mp H
                      obtain ⟨t239, A1010, H⟩ := H
                      replace H : (if (wrap64 (t238 + t239)) > t203 then (laws_FnEdgecuts.j5 kj83 t198 t199 t200 true) else (if t234 < t199 then ((impl_BestValue.f kj83 t198 t234 t200).bind fun t240 => ((impl_BestValue.f kj83 t198 (wrap64 (t199 - t234)) t200).bind fun t241 => (laws_FnEdgecuts.j5 kj83 t198 t199 t200 (decide ((wrap64 (t240 + t241)) > t203))))) else (laws_FnEdgecuts.j5 kj83 t198 t199 t200 false))) = some r := H
                      have A101 := Aside0.mk A1010
                      clear A1010
                      by_cases c102 : (wrap64 (t238 + t239)) > t203
                      ·rw [if_pos c102] at H
                       exact (laws_FnEdgecuts.j5_dead HT H).elim
                      rw [if_neg c102] at H
                      have c102b0 : decide (t203 < (wrap64 (t238 + t239))) = false := decide_eq_false c102
                      clear c102
                      by_cases c105 : t234 < t199
                      ·rw [if_pos c105] at H
                       have c105b0 : decide (t234 < t199) = true := decide_eq_true c105
                       clear c105
                       replace H := Option.bind_eq_some_iff.mp H
                       obtain ⟨t240, A1060, H⟩ := H
                       replace H : ((impl_BestValue.f kj83 t198 (wrap64 (t199 - t234)) t200).bind fun t241 => (laws_FnEdgecuts.j5 kj83 t198 t199 t200 (decide ((wrap64 (t240 + t241)) > t203)))) = some r := H
                       have A106 := Aside0.mk A1060
                       clear A1060
                       replace H := Option.bind_eq_some_iff.mp H
                       obtain ⟨t241, A1070, H⟩ := H
                       replace H : (laws_FnEdgecuts.j5 kj83 t198 t199 t200 (decide ((wrap64 (t240 + t241)) > t203))) = some r := H
                       have A107 := Aside0.mk A1070
                       clear A1070
                       have H' := Aside0.mk H
                       clear H
                       go_wp2_with (first | (go_at_call 7; (with_reducible refine (impl_BestValue.calls kj83 t234 t199 _ _ t200 t238 _ ?side1 ?side2 A100.out).mono ?_); (case side1 => repeat (first | exact (Kd.S_reads' HO_5.out).2.2 | (with_reducible refine Kd.C_alloc ?_ _) | (with_reducible refine Kd.C_drewN ?_ _) | (with_reducible refine Kd.C_drew ?_))); (case side2 => exact (Kd.S_reads' HO_5.out).2.1); rintro e w108 ⟨rfl, hb⟩; have n0_ := Aside0.mk (Kd.S_below (by (with_reducible repeat (first | apply Kd.S_alloc | apply Kd.S_drewN | apply Kd.S_drew)); exact HO_5.out) hb); have n1_ := Aside0.mk (below_step (by repeat (first | (with_reducible first | exact HB.out | apply below_alloc | apply pw_below_drewN | apply below_drew1) | exact HB.out)) hb); clear HO_5; clear HB; have HO_5 := n0_; have HB := n1_; clear n0_ n1_; (try clear hb); (try clear hb2); (try clear hk); (try clear hi)) | (go_at_call 7; (with_reducible refine (impl_BestValue.calls kj83 (wrap64 (t198 - t234)) t199 _ _ t200 t239 _ ?side1 ?side2 A101.out).mono ?_); (case side1 => repeat (first | exact (Kd.S_reads' HO_5.out).2.2 | (with_reducible refine Kd.C_alloc ?_ _) | (with_reducible refine Kd.C_drewN ?_ _) | (with_reducible refine Kd.C_drew ?_))); (case side2 => exact (Kd.S_reads' HO_5.out).2.1); rintro e w109 ⟨rfl, hb⟩; have n0_ := Aside0.mk (Kd.S_below (by (with_reducible repeat (first | apply Kd.S_alloc | apply Kd.S_drewN | apply Kd.S_drew)); exact HO_5.out) hb); have n1_ := Aside0.mk (below_step (by repeat (first | (with_reducible first | exact HB.out | apply below_alloc | apply pw_below_drewN | apply below_drew1) | exact HB.out)) hb); clear HO_5; clear HB; have HO_5 := n0_; have HB := n1_; clear n0_ n1_; (try clear hb); (try clear hb2); (try clear hk); (try clear hi)) | (go_at_call 7; (with_reducible refine (impl_BestValue.calls kj83 t198 t234 _ _ t200 t240 _ ?side1 ?side2 A106.out).mono ?_); (case side1 => repeat (first | exact (Kd.S_reads' HO_5.out).2.2 | (with_reducible refine Kd.C_alloc ?_ _) | (with_reducible refine Kd.C_drewN ?_ _) | (with_reducible refine Kd.C_drew ?_))); (case side2 => exact (Kd.S_reads' HO_5.out).2.1); rintro e w110 ⟨rfl, hb⟩; have n0_ := Aside0.mk (Kd.S_below (by (with_reducible repeat (first | apply Kd.S_alloc | apply Kd.S_drewN | apply Kd.S_drew)); exact HO_5.out) hb); have n1_ := Aside0.mk (below_step (by repeat (first | (with_reducible first | exact HB.out | apply below_alloc | apply pw_below_drewN | apply below_drew1) | exact HB.out)) hb); clear HO_5; clear HB; have HO_5 := n0_; have HB := n1_; clear n0_ n1_; (try clear hb); (try clear hb2); (try clear hk); (try clear hi)) | (go_at_call 7; (with_reducible refine (impl_BestValue.calls kj83 t198 (wrap64 (t199 - t234)) _ _ t200 t241 _ ?side1 ?side2 A107.out).mono ?_); (case side1 => repeat (first | exact (Kd.S_reads' HO_5.out).2.2 | (with_reducible refine Kd.C_alloc ?_ _) | (with_reducible refine Kd.C_drewN ?_ _) | (with_reducible refine Kd.C_drew ?_))); (case side2 => exact (Kd.S_reads' HO_5.out).2.1); rintro e w111 ⟨rfl, hb⟩; have n0_ := Aside0.mk (Kd.S_below (by (with_reducible repeat (first | apply Kd.S_alloc | apply Kd.S_drewN | apply Kd.S_drew)); exact HO_5.out) hb); have n1_ := Aside0.mk (below_step (by repeat (first | (with_reducible first | exact HB.out | apply below_alloc | apply pw_below_drewN | apply below_drew1) | exact HB.out)) hb); clear HO_5; clear HB; have HO_5 := n0_; have HB := n1_; clear n0_ n1_; (try clear hb); (try clear hb2); (try clear hk); (try clear hi)))
                       go_meet
                       case rel => exact ⟨_, (decide ((wrap64 (t240 + t241)) > t203)), (by first | rfl | (simp; done) | (simp [*]; done)), H', ⟨by have := HJ5.out; have := HK2.out; have := HJ63.out; have := HK4.out; have := HJ83.out; first | omega | exact Nat.le_refl _⟩, ⟨by (with_reducible repeat (first | apply Kd.S_alloc | apply Kd.S_drewN | apply Kd.S_drew)); exact HO_5.out⟩, ⟨by repeat (first | (with_reducible first | exact HB.out | apply below_alloc | apply pw_below_drewN | apply below_drew1) | exact HB.out)⟩⟩
                      ·rw [if_neg c105] at H
                       have c105b0 : decide (t234 < t199) = false := decide_eq_false c105
                       clear c105
                       have H' := Aside0.mk H
                       clear H
                       go_wp2_with (first | (go_at_call 7; (with_reducible refine (impl_BestValue.calls kj83 t234 t199 _ _ t200 t238 _ ?side1 ?side2 A100.out).mono ?_); (case side1 => repeat (first | exact (Kd.S_reads' HO_5.out).2.2 | (with_reducible refine Kd.C_alloc ?_ _) | (with_reducible refine Kd.C_drewN ?_ _) | (with_reducible refine Kd.C_drew ?_))); (case side2 => exact (Kd.S_reads' HO_5.out).2.1); rintro e w112 ⟨rfl, hb⟩; have n0_ := Aside0.mk (Kd.S_below (by (with_reducible repeat (first | apply Kd.S_alloc | apply Kd.S_drewN | apply Kd.S_drew)); exact HO_5.out) hb); have n1_ := Aside0.mk (below_step (by repeat (first | (with_reducible first | exact HB.out | apply below_alloc | apply pw_below_drewN | apply below_drew1) | exact HB.out)) hb); clear HO_5; clear HB; have HO_5 := n0_; have HB := n1_; clear n0_ n1_; (try clear hb); (try clear hb2); (try clear hk); (try clear hi)) | (go_at_call 7; (with_reducible refine (impl_BestValue.calls kj83 (wrap64 (t198 - t234)) t199 _ _ t200 t239 _ ?side1 ?side2 A101.out).mono ?_); (case side1 => repeat (first | exact (Kd.S_reads' HO_5.out).2.2 | (with_reducible refine Kd.C_alloc ?_ _) | (with_reducible refine Kd.C_drewN ?_ _) | (with_reducible refine Kd.C_drew ?_))); (case side2 => exact (Kd.S_reads' HO_5.out).2.1); rintro e w113 ⟨rfl, hb⟩; have n0_ := Aside0.mk (Kd.S_below (by (with_reducible repeat (first | apply Kd.S_alloc | apply Kd.S_drewN | apply Kd.S_drew)); exact HO_5.out) hb); have n1_ := Aside0.mk (below_step (by repeat (first | (with_reducible first | exact HB.out | apply below_alloc | apply pw_below_drewN | apply below_drew1) | exact HB.out)) hb); clear HO_5; clear HB; have HO_5 := n0_; have HB := n1_; clear n0_ n1_; (try clear hb); (try clear hb2); (try clear hk); (try clear hi)))
                       go_meet
                       case rel => exact ⟨_, (false), (by first | rfl | (simp; done) | (simp [*]; done)), H', ⟨by have := HJ5.out; have := HK2.out; have := HJ63.out; have := HK4.out; have := HJ83.out; first | omega | exact Nat.le_refl _⟩, ⟨by (with_reducible repeat (first | apply Kd.S_alloc | apply Kd.S_drewN | apply Kd.S_drew)); exact HO_5.out⟩, ⟨by repeat (first | (with_reducible first | exact HB.out | apply below_alloc | apply pw_below_drewN | apply below_drew1) | exact HB.out)⟩⟩
                     ·rw [if_neg c99] at H
                      have c99b0 : decide (t234 < t198) = false := decide_eq_false c99
                      clear c99
                      (first | rw [c99b0] | (simp only [i64_w, i32_w]; rw [c99b0]) | skip)
                      by_cases c114 : t234 < t199
                      ·rw [if_pos c114] at H
                       have c114b0 : decide (t234 < t199) = true := decide_eq_true c114
                       clear c114
                       replace H := Option.bind_eq_some_iff.mp H
                       obtain ⟨t242, A1150, H⟩ := H
                       replace H : ((impl_BestValue.f kj83 t198 (wrap64 (t199 - t234)) t200).bind fun t243 => (laws_FnEdgecuts.j5 kj83 t198 t199 t200 (decide ((wrap64 (t242 + t243)) > t203)))) = some r := H
                       have A115 := Aside0.mk A1150
                       clear A1150
                       replace H := Option.bind_eq_some_iff.mp H
                       obtain ⟨t243, A1160, H⟩ := H
                       replace H : (laws_FnEdgecuts.j5 kj83 t198 t199 t200 (decide ((wrap64 (t242 + t243)) > t203))) = some r := H
                       have A116 := Aside0.mk A1160
                       clear A1160
                       have H' := Aside0.mk H
                       clear H
                       go_wp2_with (first | (go_at_call 7; (with_reducible refine (impl_BestValue.calls kj83 t198 t234 _ _ t200 t242 _ ?side1 ?side2 A115.out).mono ?_); (case side1 => repeat (first | exact (Kd.S_reads' HO_5.out).2.2 | (with_reducible refine Kd.C_alloc ?_ _) | (with_reducible refine Kd.C_drewN ?_ _) | (with_reducible refine Kd.C_drew ?_))); (case side2 => exact (Kd.S_reads' HO_5.out).2.1); rintro e w117 ⟨rfl, hb⟩; have n0_ := Aside0.mk (Kd.S_below (by (with_reducible repeat (first | apply Kd.S_alloc | apply Kd.S_drewN | apply Kd.S_drew)); exact HO_5.out) hb); have n1_ := Aside0.mk (below_step (by repeat (first | (with_reducible first | exact HB.out | apply below_alloc | apply pw_below_drewN | apply below_drew1) | exact HB.out)) hb); clear HO_5; clear HB; have HO_5 := n0_; have HB := n1_; clear n0_ n1_; (try clear hb); (try clear hb2); (try clear hk); (try clear hi)) | (go_at_call 7; (with_reducible refine (impl_BestValue.calls kj83 t198 (wrap64 (t199 - t234)) _ _ t200 t243 _ ?side1 ?side2 A116.out).mono ?_); (case side1 => repeat (first | exact (Kd.S_reads' HO_5.out).2.2 | (with_reducible refine Kd.C_alloc ?_ _) | (with_reducible refine Kd.C_drewN ?_ _) | (with_reducible refine Kd.C_drew ?_))); (case side2 => exact (Kd.S_reads' HO_5.out).2.1); rintro e w118 ⟨rfl, hb⟩; have n0_ := Aside0.mk (Kd.S_below (by (with_reducible repeat (first | apply Kd.S_alloc | apply Kd.S_drewN | apply Kd.S_drew)); exact HO_5.out) hb); have n1_ := Aside0.mk (below_step (by repeat (first | (with_reducible first | exact HB.out | apply below_alloc | apply pw_below_drewN | apply below_drew1) | exact HB.out)) hb); clear HO_5; clear HB; have HO_5 := n0_; have HB := n1_; clear n0_ n1_; (try clear hb); (try clear hb2); (try clear hk); (try clear hi)))
                       go_meet
                       case rel => exact ⟨_, (decide ((wrap64 (t242 + t243)) > t203)), (by first | rfl | (simp; done) | (simp [*]; done)), H', ⟨by have := HJ5.out; have := HK2.out; have := HJ63.out; have := HK4.out; have := HJ83.out; first | omega | exact Nat.le_refl _⟩, ⟨by (with_reducible repeat (first | apply Kd.S_alloc | apply Kd.S_drewN | apply Kd.S_drew)); exact HO_5.out⟩, ⟨by repeat (first | (with_reducible first | exact HB.out | apply below_alloc | apply pw_below_drewN | apply below_drew1) | exact HB.out)⟩⟩
                      ·rw [if_neg c114] at H
                       have c114b0 : decide (t234 < t199) = false := decide_eq_false c114
                       clear c114
                       have H' := Aside0.mk H
                       clear H
                       go_wp2
                       go_meet
                       case rel => exact ⟨_, (false), (by first | rfl | (simp; done) | (simp [*]; done)), H', ⟨by have := HJ5.out; have := HK2.out; have := HJ63.out; have := HK4.out; have := HJ83.out; first | omega | exact Nat.le_refl _⟩, ⟨by (with_reducible repeat (first | apply Kd.S_alloc | apply Kd.S_drewN | apply Kd.S_drew)); exact HO_5.out⟩, ⟨by repeat (first | (with_reducible first | exact HB.out | apply below_alloc | apply pw_below_drewN | apply below_drew1) | exact HB.out)⟩⟩
                   case rest =>
                    as_aux_lemma =>
                     clear HC98
                     (try clear c1); (try clear c2); (try clear p2); (try clear q2); (try clear hx2); (try clear qi2); (try clear c4); (try clear c6); (try clear p6); (try clear c7); (try clear c8); (try clear c9); (try clear c10); (try clear c11); (try clear c13); (try clear c21); (try clear p21); (try clear q21); (try clear hx21); (try clear qi21); (try clear c22); (try clear p22); (try clear q22); (try clear hx22); (try clear qi22); (try clear c40); (try clear c40b0); (try clear c41); (try clear c42); (try clear c45); (try clear c46); (try clear c47); (try clear c48); (try clear c49); (try clear c49b0); (try clear p64); (try clear c65); (try clear c65b0); (try clear c65b1); (try clear c66); (try clear c66b0); (try clear c68); (try clear c71); (try clear c71b0); (try clear c72); (try clear c72b0); (try clear c73); (try clear c73b0); (try clear c74); (try clear c74b0); (try clear c74b1); (try clear c75); (try clear c75b0); (try clear c75b1); (try clear c76); (try clear c76b0); (try clear c76b1); (try clear c77); (try clear c87); (try clear c87b0); (try clear c87b1); (try clear c89); (try clear c89b0); (try clear c97); (try clear c99); (try clear c99b0); (try clear c102); (try clear c102b0); (try clear c105); (try clear c105b0); (try clear c114); (try clear c114b0); (try clear hx212_0); (try clear hx213_0); (try clear hx214_0); (try clear hx215_0); (try clear hx216_0); (try clear hx217_0); (try clear hx218_0); (try clear hx219_0); (try clear hx224_0); (try clear hx225_0); (try clear hx226_0); (try clear hx227_0); (try clear p2); (try clear p21); (try clear p212); (try clear p213); (try clear p214); (try clear p215); (try clear p216); (try clear p217); (try clear p218); (try clear p219); (try clear p22); (try clear p224); (try clear p225); (try clear p226); (try clear p227); (try clear p6); (try clear p64); (try clear q2); (try clear q21); (try clear q212); (try clear q213); (try clear q214); (try clear q215); (try clear q216); (try clear q217); (try clear q218); (try clear q219); (try clear q22); (try clear q224); (try clear q225); (try clear q226); (try clear q227)
                     obtain ⟨kq, x233_97, rfl, HA, HJ97, HO_5, HB⟩ := hcut
                     cases kq with
                     | zero => exact absurd HA.out (by simp [laws_FnEdgecuts.j5])
                     | succ kj97 =>
                      have H := HA.out
                      clear HA
                      simp only [laws_FnEdgecuts.j5] at H
                      by_cases c119 : x233_97 = true
                      ·subst c119
                       have H1 : (some false) = some r := by rw [if_pos rfl] at H; exact H
                       exact (laws_FnEdgecuts.no_false HT H1).elim
                      replace c119 := Bool.eq_false_iff.mpr c119
                      subst c119
                      have H1 : ((impl_PlanValue.f kj97 t198 t199 t200 (⟨#[46]⟩ : ByteArray)).bind fun t244 => (if t244 = 0 then ((impl_BestValue.f kj97 t198 t199 ([] : List (List Int))).bind fun t245 => (some (t245 == 0))) else (some false))) = some r := by rw [if_neg (show ¬ (false = true) by decide)] at H; exact H
                      clear H
                      have H := H1
                      clear H1
                      replace H := Option.bind_eq_some_iff.mp H
                      obtain ⟨t244, A1200, H⟩ := H
                      replace H : (if t244 = 0 then ((impl_BestValue.f kj97 t198 t199 ([] : List (List Int))).bind fun t245 => (some (t245 == 0))) else (some false)) = some r := H
                      have A120 := Aside0.mk A1200
                      clear A1200
                      by_cases c121 : t244 = 0
                      ·rw [if_pos c121] at H
                       have c121b0 : (t244 == 0) = true := beq_iff_eq.mpr c121
                       have c121b1 : (t244 != 0) = false := bne_eq_false_iff_eq.mpr c121
                       clear c121
                       replace H := Option.bind_eq_some_iff.mp H
                       obtain ⟨t245, A1220, H⟩ := H
                       replace H : (some (t245 == 0)) = some r := H
                       have A122 := Aside0.mk A1220
                       clear A1220
                       obtain rfl := Option.some.inj H
                       go_wp2_with (first | (go_at_call 10; (with_reducible refine (impl_PlanValue.calls kj97 t198 t199 _ _ t200 (⟨#[46]⟩ : ByteArray) t244 _ ?side1 ?side2 ?side3 A120.out).mono ?_); (case side1 => repeat (first | exact (Kd.S_reads' HO_5.out).2.2 | (with_reducible refine Kd.C_alloc ?_ _) | (with_reducible refine Kd.C_drewN ?_ _) | (with_reducible refine Kd.C_drew ?_))); (case side2 => exact (Kd.S_reads' HO_5.out).2.1); (case side3 => exact HLD.out.below (by repeat (first | (with_reducible first | exact HB.out | apply below_alloc | apply pw_below_drewN | apply below_drew1) | exact HB.out))); rintro e w123 ⟨rfl, hb⟩; have n0_ := Aside0.mk (Kd.S_below (by (with_reducible repeat (first | apply Kd.S_alloc | apply Kd.S_drewN | apply Kd.S_drew)); exact HO_5.out) hb); have n1_ := Aside0.mk (below_step (by repeat (first | (with_reducible first | exact HB.out | apply below_alloc | apply pw_below_drewN | apply below_drew1) | exact HB.out)) hb); clear HO_5; clear HB; have HO_5 := n0_; have HB := n1_; clear n0_ n1_; (try clear hb); (try clear hb2); (try clear hk); (try clear hi)) | (go_at_call 7; (refine (impl_BestValue.calls kj97 t198 t199 _ _ ([] : List (List Int)) t245 _ ?side1 ?side2 A122.out).mono ?_); (case side1 => exact Kd.C_nil _ _); (case side2 => exact Nat.le_refl _); rintro e w124 ⟨rfl, hb⟩; have n0_ := Aside0.mk (Kd.S_below (by (with_reducible repeat (first | apply Kd.S_alloc | apply Kd.S_drewN | apply Kd.S_drew)); exact HO_5.out) hb); have n1_ := Aside0.mk (below_step (by repeat (first | (with_reducible first | exact HB.out | apply below_alloc | apply pw_below_drewN | apply below_drew1) | exact HB.out)) hb); clear HO_5; clear HB; have HO_5 := n0_; have HB := n1_; clear n0_ n1_; (try clear hb); (try clear hb2); (try clear hk); (try clear hi)))
                       go_ret
                       exact ⟨by first | rfl | (simp [errW_none, errW_some] <;> rfl) | (simp [*, errW_none, errW_some] <;> rfl), by repeat (first | (with_reducible first | exact HB.out | apply below_alloc | apply pw_below_drewN | apply below_drew1) | exact HB.out)⟩
                      ·rw [if_neg c121] at H
                       exact (laws_FnEdgecuts.no_false HT H).elim/-- THE ONE PLAIN STATEMENT of laws_FnEdgecuts. -/
def laws_FnEdgecuts.Pure : Prop := ∀ (l0 : List Int), l0.length ≤ maxLen → l0.length * 1 ≤ 140737488351232 → (∀ x ∈ l0, (Lit.int .u8 x).wf = true) → ∃ k, laws_FnEdgecuts.f k l0 = some true
theorem laws_FnEdgecuts.walk (P : laws_FnEdgecuts.Pure) (A0 : Option Addr) (c0 : Nat) (l0 : List Int) (w : World) (hld : LdW w) (hr0 : Kd.C (Kd.int .u8) w A0 l0.length l0) (hc0 : l0.length ≤ c0) (hm0 : l0.length ≤ maxLen) (y0 : l0.length * 1 ≤ 140737488351232) (hw0 : (∀ x ∈ l0, (Lit.int .u8 x).wf = true)) :
  Calls Tryd.prog 3 #[.slice A0 l0.length c0] w fun e w' => e = .returned (.bool true) ∧ Below w.heap.size w w' := by
 obtain ⟨k, h⟩ := P l0 hm0 y0 hw0
 refine (laws_FnEdgecuts.calls k _ _ l0 true w hr0 hc0 hld h rfl).mono ?_
 rintro e w' ⟨rfl, hd⟩
 exact ⟨rfl, hd⟩

end Go.Proofs.YthjiccclpalobaaDoor.XFnEdgecuts
