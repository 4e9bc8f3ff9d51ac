/- What functions of the program compute, as plain Lean functions, and that Go's calls come to just that: written by wip/tools/xprint.py for the law FnCurrents. -/
import Derived.Test.YtadloeklhjoohaaXFnCurrentsx0
import Derived.Test.YtadloeklhjoohaaXFnCurrentsx1
import Derived.Test.YtadloeklhjoohaaXFnCurrentsx3
import Derived.Test.YtadloeklhjoohaaXFnCurrentsx4
import Derived.Test.YtadloeklhjoohaaXFnCurrentsx5
import Derived.Test.YtadloeklhjoohaaXFnCurrentsx6
import Derived.Test.YtadloeklhjoohaaXFnCurrentsx7
namespace Go.Proofs.Ytadloeklhjoohaa.XFnCurrents
open Go.RowKit Go.Proofs.YtadloeklhjoohaaW.PrintWords Go.Proofs.YtadloeklhjoohaaW.PrintLast Go.Proofs.YtadloeklhjoohaaW.PrintMore
attribute [local go_sem] max2_int min2_int max_two min_two max_three min_three max_four min_four   -- for this text's walks alone
set_option linter.unusedVariables false
set_option linter.unusedSimpArgs false

/-! ### laws_FnCurrents: function 3 -/
theorem laws_FnCurrents.yield_undef (f : Bool → Option Bool) (g : Option Value → Option Bool) : Go.yielded.match_1 (fun _ => Option Bool) (some undef) f g = g (some undef) := rfl
attribute [local go_sem] laws_FnCurrents.yield_undef
mutual
def laws_FnCurrents.j0 : Nat → List Int → Int → List (List Int) → Int → List Int → List Int → List Int → Int → Int → Bool → Option (Bool)
  | 0, _, _, _, _, _, _, _, _, _, _ => none
  | k + 1, x0, x3, x4, x5, x6, x7, x8, x9, x10, x101 => if x101 = true then (some false) else (if 0 ≤ x3 then (if (x3 : Int).toNat ≤ 35184372088832 then (laws_FnCurrents.l0 k x0 x3 x4 x5 x6 x7 x8 x9 x10 (List.replicate (x3 : Int).toNat 0) (x4.length : Int) 0) else (none)) else (none))
def laws_FnCurrents.l0 : Nat → List Int → Int → List (List Int) → Int → List Int → List Int → List Int → Int → Int → List Int → Int → Int → Option (Bool)
  | 0, _, _, _, _, _, _, _, _, _, _, _, _ => none
  | k + 1, x0, x3, x4, x5, x6, x7, x8, x9, x10, x11, x105, x106 => if x106 < x105 then (if 0 ≤ x106 then (if x106 < (x4.length : Int) then (if x106 < (x7.length : Int) then (if 0 < ((rd_L2 x4 x106).length : Int) then (if 0 ≤ (rd (rd_L2 x4 x106) 0) then (if (rd (rd_L2 x4 x106) 0) < (x6.length : Int) then (if 1 < ((rd_L2 x4 x106).length : Int) then (if 0 ≤ (rd (rd_L2 x4 x106) 1) then (if (rd (rd_L2 x4 x106) 1) < (x6.length : Int) then (if (rd x7 x106) = (wrap64 ((rd x6 (rd (rd_L2 x4 x106) 0)) - (rd x6 (rd (rd_L2 x4 x106) 1)))) then (if x106 < (x8.length : Int) then (if (wrap64 ((rd x7 x106) * x9)) = (wrap64 ((rd x8 x106) * x5)) then (if 0 < (x6.length : Int) then (if (rd x6 0) < (rd x6 (rd (rd_L2 x4 x106) 0)) then (some false) else (if (rd x6 (rd (rd_L2 x4 x106) 0)) < 0 then (some false) else (if (rd (rd_L2 x4 x106) 0) < (x11.length : Int) then ((some (x11.set ((rd (rd_L2 x4 x106) 0) : Int).toNat (wrap64 ((rd x11 (rd (rd_L2 x4 x106) 0)) + (rd x7 x106))) : List Int)).bind fun y323 => (if (rd (rd_L2 x4 x106) 1) < (x11.length : Int) then (laws_FnCurrents.l0 k x0 x3 x4 x5 x6 x7 x8 x9 x10 (y323.set ((rd (rd_L2 x4 x106) 1) : Int).toNat (wrap64 ((rd y323 (rd (rd_L2 x4 x106) 1)) - (rd x7 x106)))) x105 (wrap64 (x106 + 1))) else (none))) else (none)))) else (none)) else (some false)) else (none)) else (some false)) else (none)) else (none)) else (none)) else (none)) else (none)) else (none)) else (none)) else (none)) else (none)) else (laws_FnCurrents.l1 k x0 x3 x4 x5 x6 x9 x10 x11 (x11.length : Int) 0)
def laws_FnCurrents.l1 : Nat → List Int → Int → List (List Int) → Int → List Int → Int → Int → List Int → Int → Int → Option (Bool)
  | 0, _, _, _, _, _, _, _, _, _, _ => none
  | k + 1, x0, x3, x4, x5, x6, x9, x10, x11, x199, x200 => if x200 < x199 then (if 0 ≤ x200 then (if x200 < (x11.length : Int) then (if x200 = 0 then (if (rd x11 x200) = x5 then (laws_FnCurrents.l1 k x0 x3 x4 x5 x6 x9 x10 x11 x199 (wrap64 (x200 + 1))) else (some false)) else (if x200 = (wrap64 (x3 - 1)) then (if (rd x11 x200) = (wrap64 (-x5)) then (laws_FnCurrents.l1 k x0 x3 x4 x5 x6 x9 x10 x11 x199 (wrap64 (x200 + 1))) else (some false)) else (if (rd x11 x200) = 0 then (laws_FnCurrents.l1 k x0 x3 x4 x5 x6 x9 x10 x11 x199 (wrap64 (x200 + 1))) else (some false)))) else (none)) else (none)) else ((spec_MakeSize.f k x0 40 0 (wrap64 ((x4.length : Int) - 1))).bind fun t330 => ((impl_WireOf.f k x3 x4 t330 true).bind fun bt331 => ((impl_WireOf.f k x3 x4 t330 false).bind fun bt335 => (if bt335.2 = true then (laws_FnCurrents.j3 k x3 x5 x6 x9 x10 bt331.1 bt331.2 bt335.1 ((bt335.1.length : Int) != (wrap64 ((x4.length : Int) + 1)))) else (laws_FnCurrents.j3 k x3 x5 x6 x9 x10 bt331.1 bt331.2 bt335.1 true)))))
def laws_FnCurrents.j3 : Nat → Int → Int → List Int → Int → Int → List (List Int) → Bool → List (List Int) → Bool → Option (Bool)
  | 0, _, _, _, _, _, _, _, _, _ => none
  | k + 1, x3, x5, x6, x9, x10, x18, x19, x20, x247 => if x247 = true then (some false) else (if x19 = true then ((impl_CountTrees.f k x3 x18).bind fun t339 => ((impl_CountTrees.f k x3 x20).bind fun t340 => (if t340 = (wrap64 ((wrap64 (2 * x5)) - t339)) then (if 0 < (x6.length : Int) then (some ((wrap64 ((rd x6 0) * x9)) == (wrap64 (x10 * x5)))) else (none)) else (some false)))) else ((impl_CountTrees.f k x3 x20).bind fun t342 => (if t342 = (wrap64 ((wrap64 (2 * x5)) - 0)) then (if 0 < (x6.length : Int) then (some ((wrap64 ((rd x6 0) * x9)) == (wrap64 (x10 * x5)))) else (none)) else (some false))))
end
def laws_FnCurrents.f (k : Nat) (l0 : List Int) : Option (Bool) := if (l0.length : Int) > 1048576 then (some true) else ((spec_MakeCircuit.f k l0 0).bind fun bt284 => ((impl_CountTrees.f k bt284.1 bt284.2).bind fun t288 => ((impl_PotentialsOf.f k bt284.1 bt284.2).bind fun t289 => ((impl_CurrentsOf.f k bt284.1 bt284.2).bind fun t292 => ((impl_ReducedCurrents.f k bt284.1 bt284.2).bind fun t295 => ((impl_RectangleSides.f k bt284.1 bt284.2).bind fun bt298 => ((impl_CircuitOk.f k bt284.1 bt284.2).bind fun t300 => (if t300 = true then (if t288 < 1 then (laws_FnCurrents.j0 k l0 bt284.1 bt284.2 t288 t289 t292 t295 bt298.1 bt298.2 true) else (if (t289.length : Int) = bt284.1 then (if (t292.length : Int) = (bt284.2.length : Int) then (if (t295.length : Int) = (bt284.2.length : Int) then (if 0 ≤ (wrap64 (bt284.1 - 1)) then (if (wrap64 (bt284.1 - 1)) < (t289.length : Int) then (if (rd t289 (wrap64 (bt284.1 - 1))) = 0 then (if bt298.1 < 1 then (laws_FnCurrents.j0 k l0 bt284.1 bt284.2 t288 t289 t292 t295 bt298.1 bt298.2 true) else (if bt298.2 < 1 then (laws_FnCurrents.j0 k l0 bt284.1 bt284.2 t288 t289 t292 t295 bt298.1 bt298.2 true) else ((impl_SquareSum.f k bt284.1 bt284.2).bind fun t302 => (laws_FnCurrents.j0 k l0 bt284.1 bt284.2 t288 t289 t292 t295 bt298.1 bt298.2 (t302 != (wrap64 (bt298.1 * bt298.2))))))) else (laws_FnCurrents.j0 k l0 bt284.1 bt284.2 t288 t289 t292 t295 bt298.1 bt298.2 true)) else (none)) else (none)) else (laws_FnCurrents.j0 k l0 bt284.1 bt284.2 t288 t289 t292 t295 bt298.1 bt298.2 true)) else (laws_FnCurrents.j0 k l0 bt284.1 bt284.2 t288 t289 t292 t295 bt298.1 bt298.2 true)) else (laws_FnCurrents.j0 k l0 bt284.1 bt284.2 t288 t289 t292 t295 bt298.1 bt298.2 true))) else (laws_FnCurrents.j0 k l0 bt284.1 bt284.2 t288 t289 t292 t295 bt298.1 bt298.2 true)))))))))
theorem laws_FnCurrents.mono_l : ∀ k, (∀ y0 y1 y2 y3 y4 y5 y6 y7 y8 y9, LeO (laws_FnCurrents.j0 k y0 y1 y2 y3 y4 y5 y6 y7 y8 y9) (laws_FnCurrents.j0 (k + 1) y0 y1 y2 y3 y4 y5 y6 y7 y8 y9)) ∧ (∀ y0 y1 y2 y3 y4 y5 y6 y7 y8 y9 y10 y11, LeO (laws_FnCurrents.l0 k y0 y1 y2 y3 y4 y5 y6 y7 y8 y9 y10 y11) (laws_FnCurrents.l0 (k + 1) y0 y1 y2 y3 y4 y5 y6 y7 y8 y9 y10 y11)) ∧ (∀ y0 y1 y2 y3 y4 y5 y6 y7 y8 y9, LeO (laws_FnCurrents.l1 k y0 y1 y2 y3 y4 y5 y6 y7 y8 y9) (laws_FnCurrents.l1 (k + 1) y0 y1 y2 y3 y4 y5 y6 y7 y8 y9)) ∧ (∀ y0 y1 y2 y3 y4 y5 y6 y7 y8, LeO (laws_FnCurrents.j3 k y0 y1 y2 y3 y4 y5 y6 y7 y8) (laws_FnCurrents.j3 (k + 1) y0 y1 y2 y3 y4 y5 y6 y7 y8))
  | 0 => ⟨fun _ _ _ _ _ _ _ _ _ _ r h => by simp [laws_FnCurrents.j0] at h, fun _ _ _ _ _ _ _ _ _ _ _ _ r h => by simp [laws_FnCurrents.l0] at h, fun _ _ _ _ _ _ _ _ _ _ r h => by simp [laws_FnCurrents.l1] at h, fun _ _ _ _ _ _ _ _ _ r h => by simp [laws_FnCurrents.j3] at h⟩
  | k + 1 => by
    obtain ⟨ih0, ih1, ih2, ih3⟩ := laws_FnCurrents.mono_l k
    refine ⟨?_, ?_, ?_, ?_⟩
    · intro y0 y1 y2 y3 y4 y5 y6 y7 y8 y9
      unfold laws_FnCurrents.j0
      repeat' first
      | (with_reducible exact ih0 _ _ _ _ _ _ _ _ _ _)
      | (with_reducible exact ih1 _ _ _ _ _ _ _ _ _ _ _ _)
      | (with_reducible exact ih2 _ _ _ _ _ _ _ _ _ _)
      | (with_reducible exact ih3 _ _ _ _ _ _ _ _ _)
      | (with_reducible exact impl_CircuitOk.mono _ _ _)
      | (with_reducible exact impl_CountTrees.mono _ _ _)
      | (with_reducible exact impl_CurrentsOf.mono _ _ _)
      | (with_reducible exact impl_PotentialsOf.mono _ _ _)
      | (with_reducible exact impl_RectangleSides.mono _ _ _)
      | (with_reducible exact impl_ReducedCurrents.mono _ _ _)
      | (with_reducible exact impl_SquareSum.mono _ _ _)
      | (with_reducible exact impl_WireOf.mono _ _ _ _ _)
      | (with_reducible exact spec_MakeCircuit.mono _ _ _)
      | (with_reducible exact spec_MakeSize.mono _ _ _ _ _)
      | (with_reducible exact LeO.refl _)
      | (with_reducible exact LeO.none _)
      | (with_reducible refine LeO.ite ?_ ?_)
      | (with_reducible refine LeO.bind ?_ (fun _ => ?_))
      | exact ih0 _ _ _ _ _ _ _ _ _ _
      | exact ih1 _ _ _ _ _ _ _ _ _ _ _ _
      | exact ih2 _ _ _ _ _ _ _ _ _ _
      | exact ih3 _ _ _ _ _ _ _ _ _
      | exact impl_CircuitOk.mono _ _ _
      | exact impl_CountTrees.mono _ _ _
      | exact impl_CurrentsOf.mono _ _ _
      | exact impl_PotentialsOf.mono _ _ _
      | exact impl_RectangleSides.mono _ _ _
      | exact impl_ReducedCurrents.mono _ _ _
      | exact impl_SquareSum.mono _ _ _
      | exact impl_WireOf.mono _ _ _ _ _
      | exact spec_MakeCircuit.mono _ _ _
      | exact spec_MakeSize.mono _ _ _ _ _
      | exact LeO.none _
      | refine LeO.ite ?_ ?_
      | refine LeO.bind ?_ (fun _ => ?_)
    · intro y0 y1 y2 y3 y4 y5 y6 y7 y8 y9 y10 y11
      unfold laws_FnCurrents.l0
      repeat' first
      | (with_reducible exact ih0 _ _ _ _ _ _ _ _ _ _)
      | (with_reducible exact ih1 _ _ _ _ _ _ _ _ _ _ _ _)
      | (with_reducible exact ih2 _ _ _ _ _ _ _ _ _ _)
      | (with_reducible exact ih3 _ _ _ _ _ _ _ _ _)
      | (with_reducible exact impl_CircuitOk.mono _ _ _)
      | (with_reducible exact impl_CountTrees.mono _ _ _)
      | (with_reducible exact impl_CurrentsOf.mono _ _ _)
      | (with_reducible exact impl_PotentialsOf.mono _ _ _)
      | (with_reducible exact impl_RectangleSides.mono _ _ _)
      | (with_reducible exact impl_ReducedCurrents.mono _ _ _)
      | (with_reducible exact impl_SquareSum.mono _ _ _)
      | (with_reducible exact impl_WireOf.mono _ _ _ _ _)
      | (with_reducible exact spec_MakeCircuit.mono _ _ _)
      | (with_reducible exact spec_MakeSize.mono _ _ _ _ _)
      | (with_reducible exact LeO.refl _)
      | (with_reducible exact LeO.none _)
      | (with_reducible refine LeO.ite ?_ ?_)
      | (with_reducible refine LeO.bind ?_ (fun _ => ?_))
      | exact ih0 _ _ _ _ _ _ _ _ _ _
      | exact ih1 _ _ _ _ _ _ _ _ _ _ _ _
      | exact ih2 _ _ _ _ _ _ _ _ _ _
      | exact ih3 _ _ _ _ _ _ _ _ _
      | exact impl_CircuitOk.mono _ _ _
      | exact impl_CountTrees.mono _ _ _
      | exact impl_CurrentsOf.mono _ _ _
      | exact impl_PotentialsOf.mono _ _ _
      | exact impl_RectangleSides.mono _ _ _
      | exact impl_ReducedCurrents.mono _ _ _
      | exact impl_SquareSum.mono _ _ _
      | exact impl_WireOf.mono _ _ _ _ _
      | exact spec_MakeCircuit.mono _ _ _
      | exact spec_MakeSize.mono _ _ _ _ _
      | exact LeO.none _
      | refine LeO.ite ?_ ?_
      | refine LeO.bind ?_ (fun _ => ?_)
    · intro y0 y1 y2 y3 y4 y5 y6 y7 y8 y9
      unfold laws_FnCurrents.l1
      repeat' first
      | (with_reducible exact ih0 _ _ _ _ _ _ _ _ _ _)
      | (with_reducible exact ih1 _ _ _ _ _ _ _ _ _ _ _ _)
      | (with_reducible exact ih2 _ _ _ _ _ _ _ _ _ _)
      | (with_reducible exact ih3 _ _ _ _ _ _ _ _ _)
      | (with_reducible exact impl_CircuitOk.mono _ _ _)
      | (with_reducible exact impl_CountTrees.mono _ _ _)
      | (with_reducible exact impl_CurrentsOf.mono _ _ _)
      | (with_reducible exact impl_PotentialsOf.mono _ _ _)
      | (with_reducible exact impl_RectangleSides.mono _ _ _)
      | (with_reducible exact impl_ReducedCurrents.mono _ _ _)
      | (with_reducible exact impl_SquareSum.mono _ _ _)
      | (with_reducible exact impl_WireOf.mono _ _ _ _ _)
      | (with_reducible exact spec_MakeCircuit.mono _ _ _)
      | (with_reducible exact spec_MakeSize.mono _ _ _ _ _)
      | (with_reducible exact LeO.refl _)
      | (with_reducible exact LeO.none _)
      | (with_reducible refine LeO.ite ?_ ?_)
      | (with_reducible refine LeO.bind ?_ (fun _ => ?_))
      | exact ih0 _ _ _ _ _ _ _ _ _ _
      | exact ih1 _ _ _ _ _ _ _ _ _ _ _ _
      | exact ih2 _ _ _ _ _ _ _ _ _ _
      | exact ih3 _ _ _ _ _ _ _ _ _
      | exact impl_CircuitOk.mono _ _ _
      | exact impl_CountTrees.mono _ _ _
      | exact impl_CurrentsOf.mono _ _ _
      | exact impl_PotentialsOf.mono _ _ _
      | exact impl_RectangleSides.mono _ _ _
      | exact impl_ReducedCurrents.mono _ _ _
      | exact impl_SquareSum.mono _ _ _
      | exact impl_WireOf.mono _ _ _ _ _
      | exact spec_MakeCircuit.mono _ _ _
      | exact spec_MakeSize.mono _ _ _ _ _
      | exact LeO.none _
      | refine LeO.ite ?_ ?_
      | refine LeO.bind ?_ (fun _ => ?_)
    · intro y0 y1 y2 y3 y4 y5 y6 y7 y8
      unfold laws_FnCurrents.j3
      repeat' first
      | (with_reducible exact ih0 _ _ _ _ _ _ _ _ _ _)
      | (with_reducible exact ih1 _ _ _ _ _ _ _ _ _ _ _ _)
      | (with_reducible exact ih2 _ _ _ _ _ _ _ _ _ _)
      | (with_reducible exact ih3 _ _ _ _ _ _ _ _ _)
      | (with_reducible exact impl_CircuitOk.mono _ _ _)
      | (with_reducible exact impl_CountTrees.mono _ _ _)
      | (with_reducible exact impl_CurrentsOf.mono _ _ _)
      | (with_reducible exact impl_PotentialsOf.mono _ _ _)
      | (with_reducible exact impl_RectangleSides.mono _ _ _)
      | (with_reducible exact impl_ReducedCurrents.mono _ _ _)
      | (with_reducible exact impl_SquareSum.mono _ _ _)
      | (with_reducible exact impl_WireOf.mono _ _ _ _ _)
      | (with_reducible exact spec_MakeCircuit.mono _ _ _)
      | (with_reducible exact spec_MakeSize.mono _ _ _ _ _)
      | (with_reducible exact LeO.refl _)
      | (with_reducible exact LeO.none _)
      | (with_reducible refine LeO.ite ?_ ?_)
      | (with_reducible refine LeO.bind ?_ (fun _ => ?_))
      | exact ih0 _ _ _ _ _ _ _ _ _ _
      | exact ih1 _ _ _ _ _ _ _ _ _ _ _ _
      | exact ih2 _ _ _ _ _ _ _ _ _ _
      | exact ih3 _ _ _ _ _ _ _ _ _
      | exact impl_CircuitOk.mono _ _ _
      | exact impl_CountTrees.mono _ _ _
      | exact impl_CurrentsOf.mono _ _ _
      | exact impl_PotentialsOf.mono _ _ _
      | exact impl_RectangleSides.mono _ _ _
      | exact impl_ReducedCurrents.mono _ _ _
      | exact impl_SquareSum.mono _ _ _
      | exact impl_WireOf.mono _ _ _ _ _
      | exact spec_MakeCircuit.mono _ _ _
      | exact spec_MakeSize.mono _ _ _ _ _
      | exact LeO.none _
      | refine LeO.ite ?_ ?_
      | refine LeO.bind ?_ (fun _ => ?_)
theorem laws_FnCurrents.mono : ∀ a0 k, LeO (laws_FnCurrents.f k a0) (laws_FnCurrents.f (k + 1) a0) := by
  intro a0 k
  obtain ⟨ih0, ih1, ih2, ih3⟩ := laws_FnCurrents.mono_l k
  unfold laws_FnCurrents.f
  repeat' first
      | (with_reducible exact ih0 _ _ _ _ _ _ _ _ _ _)
      | (with_reducible exact ih1 _ _ _ _ _ _ _ _ _ _ _ _)
      | (with_reducible exact ih2 _ _ _ _ _ _ _ _ _ _)
      | (with_reducible exact ih3 _ _ _ _ _ _ _ _ _)
      | (with_reducible exact impl_CircuitOk.mono _ _ _)
      | (with_reducible exact impl_CountTrees.mono _ _ _)
      | (with_reducible exact impl_CurrentsOf.mono _ _ _)
      | (with_reducible exact impl_PotentialsOf.mono _ _ _)
      | (with_reducible exact impl_RectangleSides.mono _ _ _)
      | (with_reducible exact impl_ReducedCurrents.mono _ _ _)
      | (with_reducible exact impl_SquareSum.mono _ _ _)
      | (with_reducible exact impl_WireOf.mono _ _ _ _ _)
      | (with_reducible exact spec_MakeCircuit.mono _ _ _)
      | (with_reducible exact spec_MakeSize.mono _ _ _ _ _)
      | (with_reducible exact LeO.refl _)
      | (with_reducible exact LeO.none _)
      | (with_reducible refine LeO.ite ?_ ?_)
      | (with_reducible refine LeO.bind ?_ (fun _ => ?_))
      | exact ih0 _ _ _ _ _ _ _ _ _ _
      | exact ih1 _ _ _ _ _ _ _ _ _ _ _ _
      | exact ih2 _ _ _ _ _ _ _ _ _ _
      | exact ih3 _ _ _ _ _ _ _ _ _
      | exact impl_CircuitOk.mono _ _ _
      | exact impl_CountTrees.mono _ _ _
      | exact impl_CurrentsOf.mono _ _ _
      | exact impl_PotentialsOf.mono _ _ _
      | exact impl_RectangleSides.mono _ _ _
      | exact impl_ReducedCurrents.mono _ _ _
      | exact impl_SquareSum.mono _ _ _
      | exact impl_WireOf.mono _ _ _ _ _
      | exact spec_MakeCircuit.mono _ _ _
      | exact spec_MakeSize.mono _ _ _ _ _
      | exact LeO.none _
      | refine LeO.ite ?_ ?_
      | refine LeO.bind ?_ (fun _ => ?_)
def laws_FnCurrents.T15 : Bool × List (List Nat × List Nat) := (true, [([], []), ([], []), ([0, 1], [0, 1]), ([2], [2]), ([], []), ([], []), ([5], [5]), ([6], [6]), ([4, 7], [4, 7]), ([8], [8]), ([], []), ([], []), ([11], [11]), ([12], [12]), ([10, 13], [10, 13]), ([14], [14]), ([9, 15], [9, 15]), ([3, 16], [3, 16]), ([17], [17]), ([18], [18]), ([18], [18]), ([19, 20, 18], [18, 19, 20]), ([21, 18], [18, 21]), ([18], [18]), ([22, 23, 18], [18, 22, 23]), ([18], [18]), ([18], [18]), ([25, 26, 18], [18, 25, 26]), ([27, 18], [18, 27]), ([18], [18]), ([28, 29, 18], [18, 28, 29]), ([24, 30, 18], [18, 24, 30]), ([18, 31], [18, 31]), ([32, 18], [32]), ([33], [33]), ([34, 33], [33, 34]), ([35, 33], [33, 35]), ([33], [33]), ([33], [33]), ([38, 33], [33, 38]), ([39, 33], [33, 39]), ([37, 40, 33], [33, 37, 40]), ([41, 33], [33, 41]), ([36, 42, 33], [33, 36, 42]), ([33, 43], [33, 43]), ([44, 33], [44]), ([45], [45]), ([45], [45]), ([47, 45], [45, 47]), ([48, 45], [45, 48]), ([46, 49, 45], [45, 46, 49]), ([50, 45], [45, 50]), ([51, 45], [45, 51]), ([45, 52], [45, 52])])
def laws_FnCurrents.B15 : List Nat := [0, 0, 3, 7, 0, 0, 32, 96, 240, 496, 0, 0, 2048, 6144, 15360, 31744, 65520, 131071, 262143, 524287, 524287, 2097151, 4194303, 524287, 16777215, 524287, 524287, 101187583, 235405311, 524287, 1040711679, 2147483647, 4294967295, 8589934591, 17179869183, 34359738367, 68719476735, 17179869183, 17179869183, 292057776127, 841813590015, 2078764171263, 4277787426815, 8796093022207, 17592186044415, 35184372088831, 70368744177663, 70368744177663, 211106232532991, 492581209243647, 1125899906842623, 2251799813685247, 4503599627370495, 9007199254740991]
theorem laws_FnCurrents.tab15 : rtab .any (opsOf Try.f3 15) = laws_FnCurrents.T15 := by kernel_rfl
theorem laws_FnCurrents.bits15 : waitsOk laws_FnCurrents.T15.2 laws_FnCurrents.B15 = true := by kernel_rfl
def laws_FnCurrents.T17 : Bool × List (List Nat × List Nat) := (true, [([], []), ([], []), ([1], [1]), ([2], [2]), ([], []), ([], []), ([5], [5]), ([6], [6]), ([4, 7], [4, 7]), ([8], [8]), ([], []), ([], []), ([10, 11], [10, 11]), ([12], [12]), ([9, 13], [9, 13]), ([0, 3, 0, 1, 2, 3, 4, 5, 6, 7, 8, 9, 10, 11, 12, 13, 14], [0, 3]), ([15, 14, 0, 1, 2, 3, 4, 5, 6, 7, 8, 9, 10, 11, 12, 13, 14], [14, 15])])
def laws_FnCurrents.B17 : List Nat := [0, 0, 2, 6, 0, 0, 32, 96, 240, 496, 0, 0, 3072, 7168, 16368, 32767, 65535]
theorem laws_FnCurrents.tab17 : rtab .any (opsOf Try.f3 17) = laws_FnCurrents.T17 := by kernel_rfl
theorem laws_FnCurrents.bits17 : waitsOk laws_FnCurrents.T17.2 laws_FnCurrents.B17 = true := by kernel_rfl
def laws_FnCurrents.T18 : Bool × List (List Nat × List Nat) := (true, [([], []), ([], []), ([1], [1]), ([2], [2]), ([], []), ([], []), ([5], [5]), ([6], [6]), ([4, 7], [4, 7]), ([8], [8]), ([], []), ([], []), ([10, 11], [10, 11]), ([12], [12]), ([9, 13], [9, 13]), ([0, 3, 0, 1, 2, 3, 4, 5, 6, 7, 8, 9, 10, 11, 12, 13, 14], [0, 3]), ([15, 14, 0, 1, 2, 3, 4, 5, 6, 7, 8, 9, 10, 11, 12, 13, 14], [14, 15])])
def laws_FnCurrents.B18 : List Nat := [0, 0, 2, 6, 0, 0, 32, 96, 240, 496, 0, 0, 3072, 7168, 16368, 32767, 65535]
theorem laws_FnCurrents.tab18 : rtab .any (opsOf Try.f3 18) = laws_FnCurrents.T18 := by kernel_rfl
theorem laws_FnCurrents.bits18 : waitsOk laws_FnCurrents.T18.2 laws_FnCurrents.B18 = true := by kernel_rfl
theorem laws_FnCurrents.j0_dead {k : Nat} {y0 y1 y2 y3 y4 y5 y6 y7 y8 : _} {r : Bool} (hT : Aside0 (r = true)) (h : laws_FnCurrents.j0 k y0 y1 y2 y3 y4 y5 y6 y7 y8 true = some r) : False := by
  have hT := hT.out
  subst hT
  cases k with
  | zero => simp [laws_FnCurrents.j0] at h
  | succ k => simp [laws_FnCurrents.j0] at h
theorem laws_FnCurrents.j3_dead {k : Nat} {y0 y1 y2 y3 y4 y5 y6 y7 : _} {r : Bool} (hT : Aside0 (r = true)) (h : laws_FnCurrents.j3 k y0 y1 y2 y3 y4 y5 y6 y7 true = some r) : False := by
  have hT := hT.out
  subst hT
  cases k with
  | zero => simp [laws_FnCurrents.j3] at h
  | succ k => simp [laws_FnCurrents.j3] at h
theorem laws_FnCurrents.no_false {r : Bool} (hT : Aside0 (r = true)) (h : some false = some r) : False := by
  have hT := hT.out
  subst hT
  simp at h
def laws_FnCurrents.qB (n m : Nat) : Array Bool := ((List.range n).map fun j => m.testBit j).toArray
set_option maxHeartbeats 8000000 in
set_option maxRecDepth 100000 in
theorem laws_FnCurrents.calls (k : Nat) (A0 : Option Addr) (c0 : Nat) (l0 : List Int) (r : Bool) (w : World) (hr0 : Kd.C (Kd.int .u8) w A0 l0.length l0) (hc0 : l0.length ≤ c0) (h : laws_FnCurrents.f k l0 = some r) (hT_ : r = true) :
    Calls Try.prog 3 #[.slice A0 l0.length c0] w fun e w' => e = .returned (.bool r) ∧ Below w.heap.size w w' := by
 have HT := Aside0.mk hT_
 clear hT_
 have HR0 := Aside0.mk hr0
 have HC0 := Aside0.mk hc0
 clear hr0 hc0
 have HB := Aside0.mk (Below.refl w.heap.size w)
 have H : (if (l0.length : Int) > 1048576 then (some true) else ((spec_MakeCircuit.f k l0 0).bind fun bt284 => ((impl_CountTrees.f k bt284.1 bt284.2).bind fun t288 => ((impl_PotentialsOf.f k bt284.1 bt284.2).bind fun t289 => ((impl_CurrentsOf.f k bt284.1 bt284.2).bind fun t292 => ((impl_ReducedCurrents.f k bt284.1 bt284.2).bind fun t295 => ((impl_RectangleSides.f k bt284.1 bt284.2).bind fun bt298 => ((impl_CircuitOk.f k bt284.1 bt284.2).bind fun t300 => (if t300 = true then (if t288 < 1 then (laws_FnCurrents.j0 k l0 bt284.1 bt284.2 t288 t289 t292 t295 bt298.1 bt298.2 true) else (if (t289.length : Int) = bt284.1 then (if (t292.length : Int) = (bt284.2.length : Int) then (if (t295.length : Int) = (bt284.2.length : Int) then (if 0 ≤ (wrap64 (bt284.1 - 1)) then (if (wrap64 (bt284.1 - 1)) < (t289.length : Int) then (if (rd t289 (wrap64 (bt284.1 - 1))) = 0 then (if bt298.1 < 1 then (laws_FnCurrents.j0 k l0 bt284.1 bt284.2 t288 t289 t292 t295 bt298.1 bt298.2 true) else (if bt298.2 < 1 then (laws_FnCurrents.j0 k l0 bt284.1 bt284.2 t288 t289 t292 t295 bt298.1 bt298.2 true) else ((impl_SquareSum.f k bt284.1 bt284.2).bind fun t302 => (laws_FnCurrents.j0 k l0 bt284.1 bt284.2 t288 t289 t292 t295 bt298.1 bt298.2 (t302 != (wrap64 (bt298.1 * bt298.2))))))) else (laws_FnCurrents.j0 k l0 bt284.1 bt284.2 t288 t289 t292 t295 bt298.1 bt298.2 true)) else (none)) else (none)) else (laws_FnCurrents.j0 k l0 bt284.1 bt284.2 t288 t289 t292 t295 bt298.1 bt298.2 true)) else (laws_FnCurrents.j0 k l0 bt284.1 bt284.2 t288 t289 t292 t295 bt298.1 bt298.2 true)) else (laws_FnCurrents.j0 k l0 bt284.1 bt284.2 t288 t289 t292 t295 bt298.1 bt298.2 true))) else (laws_FnCurrents.j0 k l0 bt284.1 bt284.2 t288 t289 t292 t295 bt298.1 bt298.2 true)))))))))) = some r := h
 clear h
 by_cases c2 : (l0.length : Int) > 1048576
 ·rw [if_pos c2] at H
  have c2b0 : decide (1048576 < (l0.length : Int)) = true := decide_eq_true c2
  have c2b1 : decide (1048576 < l0.length) = true := decide_eq_true (by omega)
  clear c2
  obtain rfl := Option.some.inj H
  go_enter Try.func3, Try.ntmps3
  go_wp2
  go_ret
  exact ⟨by first | rfl | (simp [errW_none, errW_some] <;> rfl) | (simp [*, errW_none, errW_some] <;> rfl), by repeat (first | (with_reducible first | exact HB.out | apply below_alloc | apply pw_below_drewN | apply below_drew1) | exact HB.out)⟩
 ·rw [if_neg c2] at H
  have c2b0 : decide (1048576 < (l0.length : Int)) = false := decide_eq_false c2
  have c2b1 : decide (1048576 < l0.length) = false := decide_eq_false (by omega)
  clear c2
  replace H := Option.bind_eq_some_iff.mp H
  obtain ⟨⟨t284, t285⟩, A30, H⟩ := H
  replace H : ((impl_CountTrees.f k t284 t285).bind fun t288 => ((impl_PotentialsOf.f k t284 t285).bind fun t289 => ((impl_CurrentsOf.f k t284 t285).bind fun t292 => ((impl_ReducedCurrents.f k t284 t285).bind fun t295 => ((impl_RectangleSides.f k t284 t285).bind fun bt298 => ((impl_CircuitOk.f k t284 t285).bind fun t300 => (if t300 = true then (if t288 < 1 then (laws_FnCurrents.j0 k l0 t284 t285 t288 t289 t292 t295 bt298.1 bt298.2 true) else (if (t289.length : Int) = t284 then (if (t292.length : Int) = (t285.length : Int) then (if (t295.length : Int) = (t285.length : Int) then (if 0 ≤ (wrap64 (t284 - 1)) then (if (wrap64 (t284 - 1)) < (t289.length : Int) then (if (rd t289 (wrap64 (t284 - 1))) = 0 then (if bt298.1 < 1 then (laws_FnCurrents.j0 k l0 t284 t285 t288 t289 t292 t295 bt298.1 bt298.2 true) else (if bt298.2 < 1 then (laws_FnCurrents.j0 k l0 t284 t285 t288 t289 t292 t295 bt298.1 bt298.2 true) else ((impl_SquareSum.f k t284 t285).bind fun t302 => (laws_FnCurrents.j0 k l0 t284 t285 t288 t289 t292 t295 bt298.1 bt298.2 (t302 != (wrap64 (bt298.1 * bt298.2))))))) else (laws_FnCurrents.j0 k l0 t284 t285 t288 t289 t292 t295 bt298.1 bt298.2 true)) else (none)) else (none)) else (laws_FnCurrents.j0 k l0 t284 t285 t288 t289 t292 t295 bt298.1 bt298.2 true)) else (laws_FnCurrents.j0 k l0 t284 t285 t288 t289 t292 t295 bt298.1 bt298.2 true)) else (laws_FnCurrents.j0 k l0 t284 t285 t288 t289 t292 t295 bt298.1 bt298.2 true))) else (laws_FnCurrents.j0 k l0 t284 t285 t288 t289 t292 t295 bt298.1 bt298.2 true)))))))) = some r := H
  have A3 := Aside0.mk A30
  clear A30
  replace H := Option.bind_eq_some_iff.mp H
  obtain ⟨t288, A40, H⟩ := H
  replace H : ((impl_PotentialsOf.f k t284 t285).bind fun t289 => ((impl_CurrentsOf.f k t284 t285).bind fun t292 => ((impl_ReducedCurrents.f k t284 t285).bind fun t295 => ((impl_RectangleSides.f k t284 t285).bind fun bt298 => ((impl_CircuitOk.f k t284 t285).bind fun t300 => (if t300 = true then (if t288 < 1 then (laws_FnCurrents.j0 k l0 t284 t285 t288 t289 t292 t295 bt298.1 bt298.2 true) else (if (t289.length : Int) = t284 then (if (t292.length : Int) = (t285.length : Int) then (if (t295.length : Int) = (t285.length : Int) then (if 0 ≤ (wrap64 (t284 - 1)) then (if (wrap64 (t284 - 1)) < (t289.length : Int) then (if (rd t289 (wrap64 (t284 - 1))) = 0 then (if bt298.1 < 1 then (laws_FnCurrents.j0 k l0 t284 t285 t288 t289 t292 t295 bt298.1 bt298.2 true) else (if bt298.2 < 1 then (laws_FnCurrents.j0 k l0 t284 t285 t288 t289 t292 t295 bt298.1 bt298.2 true) else ((impl_SquareSum.f k t284 t285).bind fun t302 => (laws_FnCurrents.j0 k l0 t284 t285 t288 t289 t292 t295 bt298.1 bt298.2 (t302 != (wrap64 (bt298.1 * bt298.2))))))) else (laws_FnCurrents.j0 k l0 t284 t285 t288 t289 t292 t295 bt298.1 bt298.2 true)) else (none)) else (none)) else (laws_FnCurrents.j0 k l0 t284 t285 t288 t289 t292 t295 bt298.1 bt298.2 true)) else (laws_FnCurrents.j0 k l0 t284 t285 t288 t289 t292 t295 bt298.1 bt298.2 true)) else (laws_FnCurrents.j0 k l0 t284 t285 t288 t289 t292 t295 bt298.1 bt298.2 true))) else (laws_FnCurrents.j0 k l0 t284 t285 t288 t289 t292 t295 bt298.1 bt298.2 true))))))) = some r := H
  have A4 := Aside0.mk A40
  clear A40
  replace H := Option.bind_eq_some_iff.mp H
  obtain ⟨t289, A50, H⟩ := H
  replace H : ((impl_CurrentsOf.f k t284 t285).bind fun t292 => ((impl_ReducedCurrents.f k t284 t285).bind fun t295 => ((impl_RectangleSides.f k t284 t285).bind fun bt298 => ((impl_CircuitOk.f k t284 t285).bind fun t300 => (if t300 = true then (if t288 < 1 then (laws_FnCurrents.j0 k l0 t284 t285 t288 t289 t292 t295 bt298.1 bt298.2 true) else (if (t289.length : Int) = t284 then (if (t292.length : Int) = (t285.length : Int) then (if (t295.length : Int) = (t285.length : Int) then (if 0 ≤ (wrap64 (t284 - 1)) then (if (wrap64 (t284 - 1)) < (t289.length : Int) then (if (rd t289 (wrap64 (t284 - 1))) = 0 then (if bt298.1 < 1 then (laws_FnCurrents.j0 k l0 t284 t285 t288 t289 t292 t295 bt298.1 bt298.2 true) else (if bt298.2 < 1 then (laws_FnCurrents.j0 k l0 t284 t285 t288 t289 t292 t295 bt298.1 bt298.2 true) else ((impl_SquareSum.f k t284 t285).bind fun t302 => (laws_FnCurrents.j0 k l0 t284 t285 t288 t289 t292 t295 bt298.1 bt298.2 (t302 != (wrap64 (bt298.1 * bt298.2))))))) else (laws_FnCurrents.j0 k l0 t284 t285 t288 t289 t292 t295 bt298.1 bt298.2 true)) else (none)) else (none)) else (laws_FnCurrents.j0 k l0 t284 t285 t288 t289 t292 t295 bt298.1 bt298.2 true)) else (laws_FnCurrents.j0 k l0 t284 t285 t288 t289 t292 t295 bt298.1 bt298.2 true)) else (laws_FnCurrents.j0 k l0 t284 t285 t288 t289 t292 t295 bt298.1 bt298.2 true))) else (laws_FnCurrents.j0 k l0 t284 t285 t288 t289 t292 t295 bt298.1 bt298.2 true)))))) = some r := H
  have A5 := Aside0.mk A50
  clear A50
  replace H := Option.bind_eq_some_iff.mp H
  obtain ⟨t292, A60, H⟩ := H
  replace H : ((impl_ReducedCurrents.f k t284 t285).bind fun t295 => ((impl_RectangleSides.f k t284 t285).bind fun bt298 => ((impl_CircuitOk.f k t284 t285).bind fun t300 => (if t300 = true then (if t288 < 1 then (laws_FnCurrents.j0 k l0 t284 t285 t288 t289 t292 t295 bt298.1 bt298.2 true) else (if (t289.length : Int) = t284 then (if (t292.length : Int) = (t285.length : Int) then (if (t295.length : Int) = (t285.length : Int) then (if 0 ≤ (wrap64 (t284 - 1)) then (if (wrap64 (t284 - 1)) < (t289.length : Int) then (if (rd t289 (wrap64 (t284 - 1))) = 0 then (if bt298.1 < 1 then (laws_FnCurrents.j0 k l0 t284 t285 t288 t289 t292 t295 bt298.1 bt298.2 true) else (if bt298.2 < 1 then (laws_FnCurrents.j0 k l0 t284 t285 t288 t289 t292 t295 bt298.1 bt298.2 true) else ((impl_SquareSum.f k t284 t285).bind fun t302 => (laws_FnCurrents.j0 k l0 t284 t285 t288 t289 t292 t295 bt298.1 bt298.2 (t302 != (wrap64 (bt298.1 * bt298.2))))))) else (laws_FnCurrents.j0 k l0 t284 t285 t288 t289 t292 t295 bt298.1 bt298.2 true)) else (none)) else (none)) else (laws_FnCurrents.j0 k l0 t284 t285 t288 t289 t292 t295 bt298.1 bt298.2 true)) else (laws_FnCurrents.j0 k l0 t284 t285 t288 t289 t292 t295 bt298.1 bt298.2 true)) else (laws_FnCurrents.j0 k l0 t284 t285 t288 t289 t292 t295 bt298.1 bt298.2 true))) else (laws_FnCurrents.j0 k l0 t284 t285 t288 t289 t292 t295 bt298.1 bt298.2 true))))) = some r := H
  have A6 := Aside0.mk A60
  clear A60
  replace H := Option.bind_eq_some_iff.mp H
  obtain ⟨t295, A70, H⟩ := H
  replace H : ((impl_RectangleSides.f k t284 t285).bind fun bt298 => ((impl_CircuitOk.f k t284 t285).bind fun t300 => (if t300 = true then (if t288 < 1 then (laws_FnCurrents.j0 k l0 t284 t285 t288 t289 t292 t295 bt298.1 bt298.2 true) else (if (t289.length : Int) = t284 then (if (t292.length : Int) = (t285.length : Int) then (if (t295.length : Int) = (t285.length : Int) then (if 0 ≤ (wrap64 (t284 - 1)) then (if (wrap64 (t284 - 1)) < (t289.length : Int) then (if (rd t289 (wrap64 (t284 - 1))) = 0 then (if bt298.1 < 1 then (laws_FnCurrents.j0 k l0 t284 t285 t288 t289 t292 t295 bt298.1 bt298.2 true) else (if bt298.2 < 1 then (laws_FnCurrents.j0 k l0 t284 t285 t288 t289 t292 t295 bt298.1 bt298.2 true) else ((impl_SquareSum.f k t284 t285).bind fun t302 => (laws_FnCurrents.j0 k l0 t284 t285 t288 t289 t292 t295 bt298.1 bt298.2 (t302 != (wrap64 (bt298.1 * bt298.2))))))) else (laws_FnCurrents.j0 k l0 t284 t285 t288 t289 t292 t295 bt298.1 bt298.2 true)) else (none)) else (none)) else (laws_FnCurrents.j0 k l0 t284 t285 t288 t289 t292 t295 bt298.1 bt298.2 true)) else (laws_FnCurrents.j0 k l0 t284 t285 t288 t289 t292 t295 bt298.1 bt298.2 true)) else (laws_FnCurrents.j0 k l0 t284 t285 t288 t289 t292 t295 bt298.1 bt298.2 true))) else (laws_FnCurrents.j0 k l0 t284 t285 t288 t289 t292 t295 bt298.1 bt298.2 true)))) = some r := H
  have A7 := Aside0.mk A70
  clear A70
  replace H := Option.bind_eq_some_iff.mp H
  obtain ⟨⟨t298, t299⟩, A80, H⟩ := H
  replace H : ((impl_CircuitOk.f k t284 t285).bind fun t300 => (if t300 = true then (if t288 < 1 then (laws_FnCurrents.j0 k l0 t284 t285 t288 t289 t292 t295 t298 t299 true) else (if (t289.length : Int) = t284 then (if (t292.length : Int) = (t285.length : Int) then (if (t295.length : Int) = (t285.length : Int) then (if 0 ≤ (wrap64 (t284 - 1)) then (if (wrap64 (t284 - 1)) < (t289.length : Int) then (if (rd t289 (wrap64 (t284 - 1))) = 0 then (if t298 < 1 then (laws_FnCurrents.j0 k l0 t284 t285 t288 t289 t292 t295 t298 t299 true) else (if t299 < 1 then (laws_FnCurrents.j0 k l0 t284 t285 t288 t289 t292 t295 t298 t299 true) else ((impl_SquareSum.f k t284 t285).bind fun t302 => (laws_FnCurrents.j0 k l0 t284 t285 t288 t289 t292 t295 t298 t299 (t302 != (wrap64 (t298 * t299))))))) else (laws_FnCurrents.j0 k l0 t284 t285 t288 t289 t292 t295 t298 t299 true)) else (none)) else (none)) else (laws_FnCurrents.j0 k l0 t284 t285 t288 t289 t292 t295 t298 t299 true)) else (laws_FnCurrents.j0 k l0 t284 t285 t288 t289 t292 t295 t298 t299 true)) else (laws_FnCurrents.j0 k l0 t284 t285 t288 t289 t292 t295 t298 t299 true))) else (laws_FnCurrents.j0 k l0 t284 t285 t288 t289 t292 t295 t298 t299 true))) = some r := H
  have A8 := Aside0.mk A80
  clear A80
  have HC9 := Aside0.mk H
  clear H
  go_enter Try.func3, Try.ntmps3
  go_upto_region 9 with (first | ((with_reducible refine gate_callee (f := 6) rfl ?_); refine goesL_ (some 28) rfl rfl Try.func6 (by kernel_rfl) rfl #[.slice A0 l0.length c0, .int .i64 0] rfl (by (try simp only [List.map_toArray, List.map_cons, List.map_nil]); first | done | rfl | (simp only [List.length_drop, List.length_take]; rfl)) ?_; (with_reducible refine (spec_MakeCircuit.calls k _ _ l0 0 t284 t285 _ ?side1 ?side2 A3.out).mono ?_); (case side1 => repeat (first | exact HR0.out | (with_reducible refine Kd.C_alloc ?_ _) | (with_reducible refine Kd.C_drewN ?_ _) | (with_reducible refine Kd.C_drew ?_))); (case side2 => exact HC0.out); rintro e w10 ⟨v286, rfl, ho0, hb⟩; refine ⟨_, rfl, ?_⟩; have n0_ := Aside0.mk (Kd.S_lower ho0 (below_size (by repeat (first | (with_reducible first | exact HB.out | apply below_alloc | apply pw_below_drewN | apply below_drew1) | exact HB.out)))); have n1_ := Aside0.mk (below_step (by repeat (first | (with_reducible first | exact HB.out | apply below_alloc | apply pw_below_drewN | apply below_drew1) | exact HB.out)) hb); clear HB; have HO287 := n0_; have HB := n1_; clear n0_ n1_; (try clear hb); (try clear hb2); (try clear hk); (try clear hi); (try clear ho0); obtain ⟨Ao11, co11, eo11⟩ := Kd.S_slice HO287.out; subst eo11) | ((with_reducible refine gate_callee (f := 7) rfl ?_); refine goesL_ (some 33) rfl rfl Try.func7 (by kernel_rfl) rfl #[.int .i64 t284, .slice Ao11 t285.length co11] rfl (by (try simp only [List.map_toArray, List.map_cons, List.map_nil]); first | done | rfl | (simp only [List.length_drop, List.length_take]; rfl)) ?_; (with_reducible refine (impl_CountTrees.calls k t284 _ _ t285 t288 _ ?side1 ?side2 A4.out).mono ?_); (case side1 => repeat (first | exact (Kd.S_reads' HO287.out).2.2 | (with_reducible refine Kd.C_alloc ?_ _) | (with_reducible refine Kd.C_drewN ?_ _) | (with_reducible refine Kd.C_drew ?_))); (case side2 => exact (Kd.S_reads' HO287.out).2.1); rintro e w12 ⟨rfl, hb⟩; refine ⟨_, rfl, ?_⟩; have n0_ := Aside0.mk (Kd.S_below (by (with_reducible repeat (first | apply Kd.S_alloc | apply Kd.S_drewN | apply Kd.S_drew)); exact HO287.out) hb); have n1_ := Aside0.mk (below_step (by repeat (first | (with_reducible first | exact HB.out | apply below_alloc | apply pw_below_drewN | apply below_drew1) | exact HB.out)) hb); clear HO287; clear HB; have HO287 := n0_; have HB := n1_; clear n0_ n1_; (try clear hb); (try clear hb2); (try clear hk); (try clear hi)) | ((with_reducible refine gate_callee (f := 8) rfl ?_); refine goesL_ (some 36) rfl rfl Try.func8 (by kernel_rfl) rfl #[.int .i64 t284, .slice Ao11 t285.length co11] rfl (by (try simp only [List.map_toArray, List.map_cons, List.map_nil]); first | done | rfl | (simp only [List.length_drop, List.length_take]; rfl)) ?_; (with_reducible refine (impl_PotentialsOf.calls k t284 _ _ t285 t289 _ ?side1 ?side2 A5.out).mono ?_); (case side1 => repeat (first | exact (Kd.S_reads' HO287.out).2.2 | (with_reducible refine Kd.C_alloc ?_ _) | (with_reducible refine Kd.C_drewN ?_ _) | (with_reducible refine Kd.C_drew ?_))); (case side2 => exact (Kd.S_reads' HO287.out).2.1); rintro e w13 ⟨v290, rfl, ho0, hb⟩; refine ⟨_, rfl, ?_⟩; have n0_ := Aside0.mk (Kd.S_elder' (by (with_reducible repeat (first | apply Kd.S_alloc | apply Kd.S_drewN | apply Kd.S_drew)); exact HO287.out) (Kd.R_base ho0) hb); have n1_ := Aside0.mk (Kd.R_lower ho0 (below_size (by repeat (first | (with_reducible first | exact HB.out | apply below_alloc | apply pw_below_drewN | apply below_drew1) | exact HB.out)))); have n2_ := Aside0.mk (below_step (by repeat (first | (with_reducible first | exact HB.out | apply below_alloc | apply pw_below_drewN | apply below_drew1) | exact HB.out)) hb); clear HO287; clear HB; have HO287 := n0_; have HO291 := n1_; have HB := n2_; clear n0_ n1_ n2_; (try clear hb); (try clear hb2); (try clear hk); (try clear hi); (try clear ho0)) | ((with_reducible refine gate_callee (f := 9) rfl ?_); refine goesL_ (some 39) rfl rfl Try.func9 (by kernel_rfl) rfl #[.int .i64 t284, .slice Ao11 t285.length co11] rfl (by (try simp only [List.map_toArray, List.map_cons, List.map_nil]); first | done | rfl | (simp only [List.length_drop, List.length_take]; rfl)) ?_; (with_reducible refine (impl_CurrentsOf.calls k t284 _ _ t285 t292 _ ?side1 ?side2 A6.out).mono ?_); (case side1 => repeat (first | exact (Kd.S_reads' HO287.out).2.2 | (with_reducible refine Kd.C_alloc ?_ _) | (with_reducible refine Kd.C_drewN ?_ _) | (with_reducible refine Kd.C_drew ?_))); (case side2 => exact (Kd.S_reads' HO287.out).2.1); rintro e w14 ⟨v293, rfl, ho0, hb⟩; refine ⟨_, rfl, ?_⟩; have n0_ := Aside0.mk (Kd.S_elder' (by (with_reducible repeat (first | apply Kd.S_alloc | apply Kd.S_drewN | apply Kd.S_drew)); exact HO287.out) (Kd.R_base ho0) hb); have n1_ := Aside0.mk (Kd.R_elder' (by (with_reducible repeat (first | apply Kd.R_alloc | apply Kd.R_drewN | apply Kd.R_drew)); exact HO291.out) (Kd.R_base ho0) hb); have n2_ := Aside0.mk (Kd.R_lower (Kd.R_new' ho0 (Kd.R_lt (by (with_reducible repeat (first | apply Kd.R_alloc | apply Kd.R_drewN | apply Kd.R_drew)); exact HO291.out))) (below_size (by repeat (first | (with_reducible first | exact HB.out | apply below_alloc | apply pw_below_drewN | apply below_drew1) | exact HB.out)))); have n3_ := Aside0.mk (below_step (by repeat (first | (with_reducible first | exact HB.out | apply below_alloc | apply pw_below_drewN | apply below_drew1) | exact HB.out)) hb); clear HO287; clear HO291; clear HB; have HO287 := n0_; have HO291 := n1_; have HO294 := n2_; have HB := n3_; clear n0_ n1_ n2_ n3_; (try clear hb); (try clear hb2); (try clear hk); (try clear hi); (try clear ho0)) | ((with_reducible refine gate_callee (f := 10) rfl ?_); refine goesL_ (some 42) rfl rfl Try.func10 (by kernel_rfl) rfl #[.int .i64 t284, .slice Ao11 t285.length co11] rfl (by (try simp only [List.map_toArray, List.map_cons, List.map_nil]); first | done | rfl | (simp only [List.length_drop, List.length_take]; rfl)) ?_; (with_reducible refine (impl_ReducedCurrents.calls k t284 _ _ t285 t295 _ ?side1 ?side2 A7.out).mono ?_); (case side1 => repeat (first | exact (Kd.S_reads' HO287.out).2.2 | (with_reducible refine Kd.C_alloc ?_ _) | (with_reducible refine Kd.C_drewN ?_ _) | (with_reducible refine Kd.C_drew ?_))); (case side2 => exact (Kd.S_reads' HO287.out).2.1); rintro e w15 ⟨v296, rfl, ho0, hb⟩; refine ⟨_, rfl, ?_⟩; have n0_ := Aside0.mk (Kd.S_elder' (by (with_reducible repeat (first | apply Kd.S_alloc | apply Kd.S_drewN | apply Kd.S_drew)); exact HO287.out) (Kd.R_base ho0) hb); have n1_ := Aside0.mk (Kd.R_elder' (by (with_reducible repeat (first | apply Kd.R_alloc | apply Kd.R_drewN | apply Kd.R_drew)); exact HO291.out) (Kd.R_base ho0) hb); have n2_ := Aside0.mk (Kd.R_elder' (by (with_reducible repeat (first | apply Kd.R_alloc | apply Kd.R_drewN | apply Kd.R_drew)); exact HO294.out) (Kd.R_base ho0) hb); have n3_ := Aside0.mk (Kd.R_lower (Kd.R_new' (Kd.R_new' ho0 (Kd.R_lt (by (with_reducible repeat (first | apply Kd.R_alloc | apply Kd.R_drewN | apply Kd.R_drew)); exact HO291.out))) (Kd.R_lt (by (with_reducible repeat (first | apply Kd.R_alloc | apply Kd.R_drewN | apply Kd.R_drew)); exact HO294.out))) (below_size (by repeat (first | (with_reducible first | exact HB.out | apply below_alloc | apply pw_below_drewN | apply below_drew1) | exact HB.out)))); have n4_ := Aside0.mk (below_step (by repeat (first | (with_reducible first | exact HB.out | apply below_alloc | apply pw_below_drewN | apply below_drew1) | exact HB.out)) hb); clear HO287; clear HO291; clear HO294; clear HB; have HO287 := n0_; have HO291 := n1_; have HO294 := n2_; have HO297 := n3_; have HB := n4_; clear n0_ n1_ n2_ n3_ n4_; (try clear hb); (try clear hb2); (try clear hk); (try clear hi); (try clear ho0)) | ((with_reducible refine gate_callee (f := 11) rfl ?_); refine goesL_ (some 46) rfl rfl Try.func11 (by kernel_rfl) rfl #[.int .i64 t284, .slice Ao11 t285.length co11] rfl (by (try simp only [List.map_toArray, List.map_cons, List.map_nil]); first | done | rfl | (simp only [List.length_drop, List.length_take]; rfl)) ?_; (with_reducible refine (impl_RectangleSides.calls k t284 _ _ t285 t298 t299 _ ?side1 ?side2 A8.out).mono ?_); (case side1 => repeat (first | exact (Kd.S_reads' HO287.out).2.2 | (with_reducible refine Kd.C_alloc ?_ _) | (with_reducible refine Kd.C_drewN ?_ _) | (with_reducible refine Kd.C_drew ?_))); (case side2 => exact (Kd.S_reads' HO287.out).2.1); rintro e w16 ⟨rfl, hb⟩; refine ⟨_, rfl, ?_⟩; have n0_ := Aside0.mk (Kd.S_below (by (with_reducible repeat (first | apply Kd.S_alloc | apply Kd.S_drewN | apply Kd.S_drew)); exact HO287.out) hb); have n1_ := Aside0.mk (Kd.R_below (by (with_reducible repeat (first | apply Kd.R_alloc | apply Kd.R_drewN | apply Kd.R_drew)); exact HO291.out) hb); have n2_ := Aside0.mk (Kd.R_below (by (with_reducible repeat (first | apply Kd.R_alloc | apply Kd.R_drewN | apply Kd.R_drew)); exact HO294.out) hb); have n3_ := Aside0.mk (Kd.R_below (by (with_reducible repeat (first | apply Kd.R_alloc | apply Kd.R_drewN | apply Kd.R_drew)); exact HO297.out) hb); have n4_ := Aside0.mk (below_step (by repeat (first | (with_reducible first | exact HB.out | apply below_alloc | apply pw_below_drewN | apply below_drew1) | exact HB.out)) hb); clear HO287; clear HO291; clear HO294; clear HO297; clear HB; have HO287 := n0_; have HO291 := n1_; have HO294 := n2_; have HO297 := n3_; have HB := n4_; clear n0_ n1_ n2_ n3_ n4_; (try clear hb); (try clear hb2); (try clear hk); (try clear hi)))
  (try simp only [Act.put, List.setIfInBounds_toArray, List.set_cons_zero, List.set_cons_succ])
  go_cut [101] (fun v101 wc => ∃ (kq : Nat) (x101_8 : Bool), v101 = .bool x101_8 ∧ Aside0 (laws_FnCurrents.j0 kq l0 t284 t285 t288 t289 t292 t295 t298 t299 x101_8 = some r) ∧ Aside0 (kq ≤ k) ∧ Aside0 (Kd.S (Kd.slice 3 (Kd.int .i64)) 27 wc w.heap.size (fun k_ => some k_ ≠ (v290 : Value).ownBlock ∧ some k_ ≠ (v293 : Value).ownBlock ∧ some k_ ≠ (v296 : Value).ownBlock) (.slice Ao11 t285.length co11) t285) ∧ Aside0 (Kd.R (Kd.int .i64) 3 wc w.heap.size (fun k_ => some k_ ≠ (v293 : Value).ownBlock ∧ some k_ ≠ (v296 : Value).ownBlock) v290 t289) ∧ Aside0 (Kd.R (Kd.int .i64) 3 wc w.heap.size (fun k_ => some k_ ≠ (v290 : Value).ownBlock ∧ some k_ ≠ (v296 : Value).ownBlock) v293 t292) ∧ Aside0 (Kd.R (Kd.int .i64) 3 wc w.heap.size (fun k_ => some k_ ≠ (v290 : Value).ownBlock ∧ some k_ ≠ (v293 : Value).ownBlock) v296 t295) ∧ Aside0 (Below w.heap.size w wc))
  case first =>
   have H := HC9.out
   clear HC9
   replace H := Option.bind_eq_some_iff.mp H
   obtain ⟨t300, A170, H⟩ := H
   replace H : (if t300 = true then (if t288 < 1 then (laws_FnCurrents.j0 k l0 t284 t285 t288 t289 t292 t295 t298 t299 true) else (if (t289.length : Int) = t284 then (if (t292.length : Int) = (t285.length : Int) then (if (t295.length : Int) = (t285.length : Int) then (if 0 ≤ (wrap64 (t284 - 1)) then (if (wrap64 (t284 - 1)) < (t289.length : Int) then (if (rd t289 (wrap64 (t284 - 1))) = 0 then (if t298 < 1 then (laws_FnCurrents.j0 k l0 t284 t285 t288 t289 t292 t295 t298 t299 true) else (if t299 < 1 then (laws_FnCurrents.j0 k l0 t284 t285 t288 t289 t292 t295 t298 t299 true) else ((impl_SquareSum.f k t284 t285).bind fun t302 => (laws_FnCurrents.j0 k l0 t284 t285 t288 t289 t292 t295 t298 t299 (t302 != (wrap64 (t298 * t299))))))) else (laws_FnCurrents.j0 k l0 t284 t285 t288 t289 t292 t295 t298 t299 true)) else (none)) else (none)) else (laws_FnCurrents.j0 k l0 t284 t285 t288 t289 t292 t295 t298 t299 true)) else (laws_FnCurrents.j0 k l0 t284 t285 t288 t289 t292 t295 t298 t299 true)) else (laws_FnCurrents.j0 k l0 t284 t285 t288 t289 t292 t295 t298 t299 true))) else (laws_FnCurrents.j0 k l0 t284 t285 t288 t289 t292 t295 t298 t299 true)) = some r := H
   have A17 := Aside0.mk A170
   clear A170
   by_cases c18 : t300 = true
   ·subst c18
    have H1 : (if t288 < 1 then (laws_FnCurrents.j0 k l0 t284 t285 t288 t289 t292 t295 t298 t299 true) else (if (t289.length : Int) = t284 then (if (t292.length : Int) = (t285.length : Int) then (if (t295.length : Int) = (t285.length : Int) then (if 0 ≤ (wrap64 (t284 - 1)) then (if (wrap64 (t284 - 1)) < (t289.length : Int) then (if (rd t289 (wrap64 (t284 - 1))) = 0 then (if t298 < 1 then (laws_FnCurrents.j0 k l0 t284 t285 t288 t289 t292 t295 t298 t299 true) else (if t299 < 1 then (laws_FnCurrents.j0 k l0 t284 t285 t288 t289 t292 t295 t298 t299 true) else ((impl_SquareSum.f k t284 t285).bind fun t302 => (laws_FnCurrents.j0 k l0 t284 t285 t288 t289 t292 t295 t298 t299 (t302 != (wrap64 (t298 * t299))))))) else (laws_FnCurrents.j0 k l0 t284 t285 t288 t289 t292 t295 t298 t299 true)) else (none)) else (none)) else (laws_FnCurrents.j0 k l0 t284 t285 t288 t289 t292 t295 t298 t299 true)) else (laws_FnCurrents.j0 k l0 t284 t285 t288 t289 t292 t295 t298 t299 true)) else (laws_FnCurrents.j0 k l0 t284 t285 t288 t289 t292 t295 t298 t299 true))) = some r := by rw [if_pos rfl] at H; exact H
    clear H
    have H := H1
    clear H1
    by_cases c19 : t288 < 1
    ·rw [if_pos c19] at H
     exact (laws_FnCurrents.j0_dead HT H).elim
    ·rw [if_neg c19] at H
     have c19b0 : decide (t288 < 1) = false := decide_eq_false c19
     clear c19
     (first | rw [c19b0] | (simp only [i64_w, i32_w]; rw [c19b0]) | skip)
     by_cases c21 : (t289.length : Int) = t284
     ·rw [if_pos c21] at H
      have c21b0 : ((t289.length : Int) == t284) = true := beq_iff_eq.mpr c21
      have c21b1 : ((t289.length : Int) != t284) = false := bne_eq_false_iff_eq.mpr c21
      clear c21
      by_cases c22 : (t292.length : Int) = (t285.length : Int)
      ·rw [if_pos c22] at H
       have c22b0 : ((t292.length : Int) == (t285.length : Int)) = true := beq_iff_eq.mpr c22
       have c22b1 : ((t292.length : Int) != (t285.length : Int)) = false := bne_eq_false_iff_eq.mpr c22
       have c22b2 : (t292.length == t285.length) = true := by first | simpa using c22 | (simp at c22 ⊢; omega)
       clear c22
       by_cases c23 : (t295.length : Int) = (t285.length : Int)
       ·rw [if_pos c23] at H
        have c23b0 : ((t295.length : Int) == (t285.length : Int)) = true := beq_iff_eq.mpr c23
        have c23b1 : ((t295.length : Int) != (t285.length : Int)) = false := bne_eq_false_iff_eq.mpr c23
        have c23b2 : (t295.length == t285.length) = true := by first | simpa using c23 | (simp at c23 ⊢; omega)
        clear c23
        obtain ⟨ji24, hji24⟩ : ∃ j_ : Int, (wrap64 (t284 - 1)) = j_ := ⟨_, rfl⟩
        replace H : (if 0 ≤ (ji24) then (if (ji24) < (t289.length : Int) then (if (rd t289 (ji24)) = 0 then (if t298 < 1 then (laws_FnCurrents.j0 k l0 t284 t285 t288 t289 t292 t295 t298 t299 true) else (if t299 < 1 then (laws_FnCurrents.j0 k l0 t284 t285 t288 t289 t292 t295 t298 t299 true) else ((impl_SquareSum.f k t284 t285).bind fun t302 => (laws_FnCurrents.j0 k l0 t284 t285 t288 t289 t292 t295 t298 t299 (t302 != (wrap64 (t298 * t299))))))) else (laws_FnCurrents.j0 k l0 t284 t285 t288 t289 t292 t295 t298 t299 true)) else (none)) else (none)) = some r := by first | (rw [hji24] at H; exact H) | (simp only [hji24] at H ⊢; exact H)
        (try rw [hji24] at A17)
        have hji24w : (IntKind.i64.wrap (t284 - 1)) = ji24 := (i64_w _).trans hji24
        by_cases c25 : 0 ≤ (ji24)
        ·rw [if_pos c25] at H
         have c25b0 : decide (0 ≤ (ji24)) = true := decide_eq_true c25
         clear c25
         by_cases c26 : (ji24) < (t289.length : Int)
         ·rw [if_pos c26] at H
          have c26b0 : decide ((ji24) < (t289.length : Int)) = true := decide_eq_true c26
          clear c26
          by_cases c27 : (rd t289 (ji24)) = 0
          ·rw [if_pos c27] at H
           have c27b0 : ((rd t289 (ji24)) == 0) = true := beq_iff_eq.mpr c27
           have c27b1 : ((rd t289 (ji24)) != 0) = false := bne_eq_false_iff_eq.mpr c27
           clear c27
           by_cases c28 : t298 < 1
           ·rw [if_pos c28] at H
            exact (laws_FnCurrents.j0_dead HT H).elim
           ·rw [if_neg c28] at H
            have c28b0 : decide (t298 < 1) = false := decide_eq_false c28
            clear c28
            by_cases c33 : t299 < 1
            ·rw [if_pos c33] at H
             exact (laws_FnCurrents.j0_dead HT H).elim
            ·rw [if_neg c33] at H
             have c33b0 : decide (t299 < 1) = false := decide_eq_false c33
             clear c33
             replace H := Option.bind_eq_some_iff.mp H
             obtain ⟨t302, A380, H⟩ := H
             replace H : (laws_FnCurrents.j0 k l0 t284 t285 t288 t289 t292 t295 t298 t299 (t302 != (wrap64 (t298 * t299)))) = some r := H
             have A38 := Aside0.mk A380
             clear A380
             have H' := Aside0.mk H
             clear H
             as_aux_lemma =>
              go_wp2_with (first | ((with_reducible refine gate_callee (f := 12) rfl ?_); refine goesL_ (some 51) rfl rfl Try.func12 (by kernel_rfl) rfl #[.int .i64 t284, .slice Ao11 t285.length co11] rfl (by (try simp only [List.map_toArray, List.map_cons, List.map_nil]); first | done | rfl | (simp only [List.length_drop, List.length_take]; rfl)) ?_; (with_reducible refine (impl_CircuitOk.calls k t284 _ _ t285 true _ ?side1 ?side2 A17.out).mono ?_); (case side1 => repeat (first | exact (Kd.S_reads' HO287.out).2.2 | (with_reducible refine Kd.C_alloc ?_ _) | (with_reducible refine Kd.C_drewN ?_ _) | (with_reducible refine Kd.C_drew ?_))); (case side2 => exact (Kd.S_reads' HO287.out).2.1); rintro e w39 ⟨rfl, hb⟩; refine ⟨_, rfl, ?_⟩; have n0_ := Aside0.mk (Kd.S_below (by (with_reducible repeat (first | apply Kd.S_alloc | apply Kd.S_drewN | apply Kd.S_drew)); exact HO287.out) hb); have n1_ := Aside0.mk (Kd.R_below (by (with_reducible repeat (first | apply Kd.R_alloc | apply Kd.R_drewN | apply Kd.R_drew)); exact HO291.out) hb); have n2_ := Aside0.mk (Kd.R_below (by (with_reducible repeat (first | apply Kd.R_alloc | apply Kd.R_drewN | apply Kd.R_drew)); exact HO294.out) hb); have n3_ := Aside0.mk (Kd.R_below (by (with_reducible repeat (first | apply Kd.R_alloc | apply Kd.R_drewN | apply Kd.R_drew)); exact HO297.out) hb); have n4_ := Aside0.mk (below_step (by repeat (first | (with_reducible first | exact HB.out | apply below_alloc | apply pw_below_drewN | apply below_drew1) | exact HB.out)) hb); clear HO287; clear HO291; clear HO294; clear HO297; clear HB; have HO287 := n0_; have HO291 := n1_; have HO294 := n2_; have HO297 := n3_; have HB := n4_; clear n0_ n1_ n2_ n3_ n4_; (try clear hb); (try clear hb2); (try clear hk); (try clear hi); obtain ⟨Ao40, co40, eo40⟩ := Kd.R_slice HO291.out; subst eo40; obtain ⟨Ao41, co41, eo41⟩ := Kd.R_slice HO294.out; subst eo41; obtain ⟨Ao42, co42, eo42⟩ := Kd.R_slice HO297.out; subst eo42; have p301 : 0 ≤ ((ji24) : Int) := of_decide_eq_true (by first | (with_reducible assumption) | assumption); have q301 : (ji24) < (t289.length : Int) := of_decide_eq_true (by first | (with_reducible assumption) | assumption); obtain ⟨ad301, e301, hx301_0⟩ := Kd.at_int (Kd.R_reads' HO291.out).2.2 (ji24) p301 q301; cases e301; replace p301 := eq_true p301; replace q301 := eq_true q301) | (go_at_call 13; (with_reducible refine (impl_SquareSum.calls k t284 _ _ t285 t302 _ ?side1 ?side2 A38.out).mono ?_); (case side1 => repeat (first | exact (Kd.S_reads' HO287.out).2.2 | (with_reducible refine Kd.C_alloc ?_ _) | (with_reducible refine Kd.C_drewN ?_ _) | (with_reducible refine Kd.C_drew ?_))); (case side2 => exact (Kd.S_reads' HO287.out).2.1); rintro e w43 ⟨rfl, hb⟩; have n0_ := Aside0.mk (Kd.S_below (by (with_reducible repeat (first | apply Kd.S_alloc | apply Kd.S_drewN | apply Kd.S_drew)); exact HO287.out) hb); have n1_ := Aside0.mk (Kd.R_below (by (with_reducible repeat (first | apply Kd.R_alloc | apply Kd.R_drewN | apply Kd.R_drew)); exact HO291.out) hb); have n2_ := Aside0.mk (Kd.R_below (by (with_reducible repeat (first | apply Kd.R_alloc | apply Kd.R_drewN | apply Kd.R_drew)); exact HO294.out) hb); have n3_ := Aside0.mk (Kd.R_below (by (with_reducible repeat (first | apply Kd.R_alloc | apply Kd.R_drewN | apply Kd.R_drew)); exact HO297.out) hb); have n4_ := Aside0.mk (below_step (by repeat (first | (with_reducible first | exact HB.out | apply below_alloc | apply pw_below_drewN | apply below_drew1) | exact HB.out)) hb); clear HO287; clear HO291; clear HO294; clear HO297; clear HB; have HO287 := n0_; have HO291 := n1_; have HO294 := n2_; have HO297 := n3_; have HB := n4_; clear n0_ n1_ n2_ n3_ n4_; (try clear hb); (try clear hb2); (try clear hk); (try clear hi)))
              go_meet
              case rel => exact ⟨_, ((t302 != (wrap64 (t298 * t299)))), (by first | rfl | (simp; done) | (simp [*]; done)), H', ⟨by first | omega | exact Nat.le_refl _⟩, ⟨by (with_reducible repeat (first | apply Kd.S_alloc | apply Kd.S_drewN | apply Kd.S_drew)); exact Kd.S_mono HO287.out (fun _ hk => ⟨hk.1.1.2, ⟨hk.1.2, hk.2⟩⟩)⟩, ⟨by (with_reducible repeat (first | apply Kd.R_alloc | apply Kd.R_drewN | apply Kd.R_drew)); exact Kd.R_mono HO291.out (fun _ hk => ⟨hk.1.2, hk.2⟩)⟩, ⟨by (with_reducible repeat (first | apply Kd.R_alloc | apply Kd.R_drewN | apply Kd.R_drew)); exact Kd.R_mono HO294.out (fun _ hk => ⟨hk.1.2, hk.2⟩)⟩, ⟨by (with_reducible repeat (first | apply Kd.R_alloc | apply Kd.R_drewN | apply Kd.R_drew)); exact Kd.R_mono HO297.out (fun _ hk => ⟨hk.1.2, hk.2⟩)⟩, ⟨by repeat (first | (with_reducible first | exact HB.out | apply below_alloc | apply pw_below_drewN | apply below_drew1) | exact HB.out)⟩⟩
          ·rw [if_neg c27] at H
           exact (laws_FnCurrents.j0_dead HT H).elim
         ·rw [if_neg c26] at H
          exact absurd H (by simp)
        ·rw [if_neg c25] at H
         exact absurd H (by simp)
       ·rw [if_neg c23] at H
        exact (laws_FnCurrents.j0_dead HT H).elim
      ·rw [if_neg c22] at H
       exact (laws_FnCurrents.j0_dead HT H).elim
     ·rw [if_neg c21] at H
      exact (laws_FnCurrents.j0_dead HT H).elim
   ·replace c18 := Bool.eq_false_iff.mpr c18
    subst c18
    have H1 : (laws_FnCurrents.j0 k l0 t284 t285 t288 t289 t292 t295 t298 t299 true) = some r := by rw [if_neg (show ¬ (false = true) by decide)] at H; exact H
    exact (laws_FnCurrents.j0_dead HT H1).elim
  case rest =>
   clear HC9
   (try clear c1); (try clear c2); (try clear c2b0); (try clear c2b1); (try clear p2); (try clear c3); (try clear p3); (try clear q3); (try clear hx3); (try clear c6); (try clear p6); (try clear c7); (try clear c8); (try clear c9); (try clear c10); (try clear c11); (try clear c12); (try clear c18); (try clear c19); (try clear c19b0); (try clear c21); (try clear c21b0); (try clear c21b1); (try clear c22); (try clear c22b0); (try clear c22b1); (try clear c22b2); (try clear c23); (try clear c23b0); (try clear c23b1); (try clear c23b2); (try clear c25); (try clear c25b0); (try clear c26); (try clear c26b0); (try clear c27); (try clear c27b0); (try clear c27b1); (try clear c28); (try clear c28b0); (try clear p30); (try clear q30); (try clear hx30); (try clear c33); (try clear c33b0); (try clear hx301_0); (try clear p301); (try clear q301)
   obtain ⟨kq, x101_8, rfl, HA, HJ8, HO_4, HO_6, HO_7, HO_8, HB⟩ := hcut
   cases kq with
   | zero => exact absurd HA.out (by simp [laws_FnCurrents.j0])
   | succ kj8 =>
    have H := HA.out
    clear HA
    simp only [laws_FnCurrents.j0] at H
    by_cases c58 : x101_8 = true
    ·subst c58
     have H1 : (some false) = some r := by rw [if_pos rfl] at H; exact H
     exact (laws_FnCurrents.no_false HT H1).elim
    ·replace c58 := Bool.eq_false_iff.mpr c58
     subst c58
     have H1 : (if 0 ≤ t284 then (if (t284 : Int).toNat ≤ 35184372088832 then (laws_FnCurrents.l0 kj8 l0 t284 t285 t288 t289 t292 t295 t298 t299 (List.replicate (t284 : Int).toNat 0) (t285.length : Int) 0) else (none)) else (none)) = some r := by rw [if_neg (show ¬ (false = true) by decide)] at H; exact H
     clear H
     have H := H1
     clear H1
     by_cases c59 : 0 ≤ t284
     ·rw [if_pos c59] at H
      have c59b0 := eq_true c59
      have c59b1 : decide (0 ≤ t284) = true := decide_eq_true c59
      clear c59
      by_cases c60 : (t284 : Int).toNat ≤ 35184372088832
      ·rw [if_pos c60] at H
       have c60b0 := eq_true c60
       have c60b1 : decide ((t284 : Int).toNat ≤ 35184372088832) = true := decide_eq_true c60
       clear c60
       obtain ⟨y303, hy303⟩ : ∃ y_ : List Int, y_ = (List.replicate (t284 : Int).toNat 0) := ⟨_, rfl⟩
       replace H : (laws_FnCurrents.l0 kj8 l0 t284 t285 t288 t289 t292 t295 t298 t299 y303 (t285.length : Int) 0) = some r := by first | (rw [hy303]; with_reducible exact H) | (have H2_ := (Option.bind_some _ _).symm.trans H; rw [hy303]; with_reducible exact H2_) | (have H2_ := (Option.bind_some _ _).symm.trans H; with_reducible exact H2_) | with_reducible exact H | (rw [hy303]; exact H) | exact H
       have Ny303 := Aside0.mk hy303
       clear hy303
       have H' := Aside0.mk H
       clear H
       as_aux_lemma =>
        go_wp2_with (first | ((with_reducible refine gate_dst (N := 103) rfl ?_); (try (refine gate_guard (by rfl) ?_; dsimp only)); refine Kd.R_make (Kd.int .i64) _ 3 rfl (N := 103) rfl 27 _ _ rfl t284 rfl rfl Try.underlying27 (.int .i64 0) 8 info3 rfl (by decide) (by omega) 0 (ok := fun _ => True) (okp := fun _ => True) rfl (fun _ hk => hk) trivial (of_decide_eq_true (by first | (with_reducible assumption) | assumption)) (Nat.le_trans (Nat.mul_le_mul_right _ (of_decide_eq_true (by first | (with_reducible assumption) | assumption) : t284.toNat ≤ 35184372088832)) (by omega)) (Below.refl _ _) (Nat.le_refl _) ?_; intro v304 w61 ho62 hb hg_ hnew_; clear hg_ hnew_; (first | rw [← Ny303.out] at ho62 | (simp only [Int.reduceToNat] at ho62; rw [← Ny303.out] at ho62)); have n0_ := Aside0.mk (Kd.S_elder' (by (with_reducible repeat (first | apply Kd.S_alloc | apply Kd.S_drewN | apply Kd.S_drew)); exact HO_4.out) (Kd.R_base ho62) hb); have n1_ := Aside0.mk (Kd.R_elder' (by (with_reducible repeat (first | apply Kd.R_alloc | apply Kd.R_drewN | apply Kd.R_drew)); exact HO_6.out) (Kd.R_base ho62) hb); have n2_ := Aside0.mk (Kd.R_elder' (by (with_reducible repeat (first | apply Kd.R_alloc | apply Kd.R_drewN | apply Kd.R_drew)); exact HO_7.out) (Kd.R_base ho62) hb); have n3_ := Aside0.mk (Kd.R_elder' (by (with_reducible repeat (first | apply Kd.R_alloc | apply Kd.R_drewN | apply Kd.R_drew)); exact HO_8.out) (Kd.R_base ho62) hb); have n4_ := Aside0.mk (Kd.R_lower (Kd.R_new' (Kd.R_new' (Kd.R_new' ho62 (Kd.R_lt (by (with_reducible repeat (first | apply Kd.R_alloc | apply Kd.R_drewN | apply Kd.R_drew)); exact HO_6.out))) (Kd.R_lt (by (with_reducible repeat (first | apply Kd.R_alloc | apply Kd.R_drewN | apply Kd.R_drew)); exact HO_7.out))) (Kd.R_lt (by (with_reducible repeat (first | apply Kd.R_alloc | apply Kd.R_drewN | apply Kd.R_drew)); exact HO_8.out))) (below_size (by repeat (first | (with_reducible first | exact HB.out | apply below_alloc | apply pw_below_drewN | apply below_drew1) | exact HB.out)))); have n5_ := Aside0.mk (below_step (by repeat (first | (with_reducible first | exact HB.out | apply below_alloc | apply pw_below_drewN | apply below_drew1) | exact HB.out)) hb); clear HO_4; clear HO_6; clear HO_7; clear HO_8; clear HB; have HO_4 := n0_; have HO_6 := n1_; have HO_7 := n2_; have HO_8 := n3_; have HO305 := n4_; have HB := n5_; clear n0_ n1_ n2_ n3_ n4_ n5_; clear hb ho62))
        go_loopg [106] kj8 (fun kq v106 w' => ∃ (x11_2 : List Int) (x106_2 : Int), v106 = .int .i64 x106_2 ∧ Aside0 (laws_FnCurrents.l0 kq l0 t284 t285 t288 t289 t292 t295 t298 t299 x11_2 (t285.length : Int) x106_2 = some r) ∧ Aside0 (kq ≤ kj8) ∧ Aside0 (Kd.S (Kd.slice 3 (Kd.int .i64)) 27 w' w.heap.size (fun k_ => some k_ ≠ (v290 : Value).ownBlock ∧ some k_ ≠ (v293 : Value).ownBlock ∧ some k_ ≠ (v296 : Value).ownBlock ∧ some k_ ≠ (v304 : Value).ownBlock) (.slice Ao11 t285.length co11) t285) ∧ Aside0 (Kd.R (Kd.int .i64) 3 w' w.heap.size (fun k_ => some k_ ≠ (v293 : Value).ownBlock ∧ some k_ ≠ (v296 : Value).ownBlock ∧ some k_ ≠ (v304 : Value).ownBlock) v290 t289) ∧ Aside0 (Kd.R (Kd.int .i64) 3 w' w.heap.size (fun k_ => some k_ ≠ (v290 : Value).ownBlock ∧ some k_ ≠ (v296 : Value).ownBlock ∧ some k_ ≠ (v304 : Value).ownBlock) v293 t292) ∧ Aside0 (Kd.R (Kd.int .i64) 3 w' w.heap.size (fun k_ => some k_ ≠ (v290 : Value).ownBlock ∧ some k_ ≠ (v293 : Value).ownBlock ∧ some k_ ≠ (v304 : Value).ownBlock) v296 t295) ∧ Aside0 (Kd.R (Kd.int .i64) 3 w' w.heap.size (fun k_ => some k_ ≠ (v290 : Value).ownBlock ∧ some k_ ≠ (v293 : Value).ownBlock ∧ some k_ ≠ (v296 : Value).ownBlock) v304 x11_2) ∧ Aside0 (Below w.heap.size w w'))
        case atStart => exact ⟨(y303), (0), (by first | rfl | (simp; done) | (simp [*]; done)), H', ⟨Nat.le_refl _⟩, ⟨by (with_reducible repeat (first | apply Kd.S_alloc | apply Kd.S_drewN | apply Kd.S_drew)); exact Kd.S_mono HO_4.out (fun _ hk => ⟨hk.1.1, ⟨hk.1.2.1, ⟨hk.1.2.2, hk.2⟩⟩⟩)⟩, ⟨by (with_reducible repeat (first | apply Kd.R_alloc | apply Kd.R_drewN | apply Kd.R_drew)); exact Kd.R_mono HO_6.out (fun _ hk => ⟨hk.1.1, ⟨hk.1.2, hk.2⟩⟩)⟩, ⟨by (with_reducible repeat (first | apply Kd.R_alloc | apply Kd.R_drewN | apply Kd.R_drew)); exact Kd.R_mono HO_7.out (fun _ hk => ⟨hk.1.1, ⟨hk.1.2, hk.2⟩⟩)⟩, ⟨by (with_reducible repeat (first | apply Kd.R_alloc | apply Kd.R_drewN | apply Kd.R_drew)); exact Kd.R_mono HO_8.out (fun _ hk => ⟨hk.1.1, ⟨hk.1.2, hk.2⟩⟩)⟩, ⟨by (with_reducible repeat (first | apply Kd.R_alloc | apply Kd.R_drewN | apply Kd.R_drew)); exact Kd.R_mono HO305.out (fun _ hk => ⟨hk.1.1.2, ⟨hk.1.2, hk.2⟩⟩)⟩, ⟨by repeat (first | (with_reducible first | exact HB.out | apply below_alloc | apply pw_below_drewN | apply below_drew1) | exact HB.out)⟩⟩
        case round =>
         clear H'
         (try clear c1); (try clear c2); (try clear c2b0); (try clear c2b1); (try clear p2); (try clear c3); (try clear p3); (try clear q3); (try clear hx3); (try clear c5); (try clear c6); (try clear p6); (try clear c7); (try clear c8); (try clear c9); (try clear c10); (try clear c11); (try clear c12); (try clear c18); (try clear c19); (try clear c19b0); (try clear c21); (try clear c21b0); (try clear c21b1); (try clear c22); (try clear c22b0); (try clear c22b1); (try clear c22b2); (try clear c23); (try clear c23b0); (try clear c23b1); (try clear c23b2); (try clear c25); (try clear c25b0); (try clear c26); (try clear c26b0); (try clear c27); (try clear c27b0); (try clear c27b1); (try clear c28); (try clear c28b0); (try clear p30); (try clear q30); (try clear hx30); (try clear c33); (try clear c33b0); (try clear c58); (try clear c59); (try clear c59b0); (try clear c59b1); (try clear c60); (try clear c60b0); (try clear c60b1); (try clear hx301_0); (try clear p2); (try clear p3); (try clear p30); (try clear p301); (try clear p6); (try clear q3); (try clear q30); (try clear q301)
         obtain ⟨x11_2, x106_2, rfl, HA, HK2, HO_4, HO_6, HO_7, HO_8, HO_11, HB⟩ := hrel
         cases gk with
         | zero => exact absurd HA.out (by simp [laws_FnCurrents.l0])
         | succ k2 =>
          have H := HA.out
          clear HA
          simp only [laws_FnCurrents.l0] at H
          by_cases c63 : x106_2 < (t285.length : Int)
          ·rw [if_pos c63] at H
           have c63b0 : decide (x106_2 < (t285.length : Int)) = true := decide_eq_true c63
           clear c63
           by_cases c64 : 0 ≤ x106_2
           ·rw [if_pos c64] at H
            have c64b0 : decide (0 ≤ x106_2) = true := decide_eq_true c64
            clear c64
            by_cases c65 : x106_2 < (t285.length : Int)
            ·rw [if_pos c65] at H
             have c65b0 : decide (x106_2 < (t285.length : Int)) = true := decide_eq_true c65
             clear c65
             by_cases c66 : x106_2 < (t292.length : Int)
             ·rw [if_pos c66] at H
              have c66b0 : decide (x106_2 < (t292.length : Int)) = true := decide_eq_true c66
              clear c66
              by_cases c67 : 0 < ((rd_L2 t285 x106_2).length : Int)
              ·rw [if_pos c67] at H
               have c67b0 : decide (0 < ((rd_L2 t285 x106_2).length : Int)) = true := decide_eq_true c67
               have c67b1 : decide (0 < (rd_L2 t285 x106_2).length) = true := decide_eq_true (by omega)
               clear c67
               by_cases c68 : 0 ≤ (rd (rd_L2 t285 x106_2) 0)
               ·rw [if_pos c68] at H
                have c68b0 : decide (0 ≤ (rd (rd_L2 t285 x106_2) 0)) = true := decide_eq_true c68
                clear c68
                by_cases c69 : (rd (rd_L2 t285 x106_2) 0) < (t289.length : Int)
                ·rw [if_pos c69] at H
                 have c69b0 : decide ((rd (rd_L2 t285 x106_2) 0) < (t289.length : Int)) = true := decide_eq_true c69
                 clear c69
                 by_cases c70 : 1 < ((rd_L2 t285 x106_2).length : Int)
                 ·rw [if_pos c70] at H
                  have c70b0 : decide (1 < ((rd_L2 t285 x106_2).length : Int)) = true := decide_eq_true c70
                  have c70b1 : decide (1 < (rd_L2 t285 x106_2).length) = true := decide_eq_true (by omega)
                  clear c70
                  by_cases c71 : 0 ≤ (rd (rd_L2 t285 x106_2) 1)
                  ·rw [if_pos c71] at H
                   have c71b0 : decide (0 ≤ (rd (rd_L2 t285 x106_2) 1)) = true := decide_eq_true c71
                   clear c71
                   by_cases c72 : (rd (rd_L2 t285 x106_2) 1) < (t289.length : Int)
                   ·rw [if_pos c72] at H
                    have c72b0 : decide ((rd (rd_L2 t285 x106_2) 1) < (t289.length : Int)) = true := decide_eq_true c72
                    clear c72
                    by_cases c73 : (rd t292 x106_2) = (wrap64 ((rd t289 (rd (rd_L2 t285 x106_2) 0)) - (rd t289 (rd (rd_L2 t285 x106_2) 1))))
                    ·rw [if_pos c73] at H
                     have c73b0 : ((rd t292 x106_2) == (wrap64 ((rd t289 (rd (rd_L2 t285 x106_2) 0)) - (rd t289 (rd (rd_L2 t285 x106_2) 1))))) = true := beq_iff_eq.mpr c73
                     have c73b1 : ((rd t292 x106_2) != (wrap64 ((rd t289 (rd (rd_L2 t285 x106_2) 0)) - (rd t289 (rd (rd_L2 t285 x106_2) 1))))) = false := bne_eq_false_iff_eq.mpr c73
                     clear c73
                     by_cases c74 : x106_2 < (t295.length : Int)
                     ·rw [if_pos c74] at H
                      have c74b0 : decide (x106_2 < (t295.length : Int)) = true := decide_eq_true c74
                      clear c74
                      by_cases c75 : (wrap64 ((rd t292 x106_2) * t298)) = (wrap64 ((rd t295 x106_2) * t288))
                      ·rw [if_pos c75] at H
                       have c75b0 : ((wrap64 ((rd t292 x106_2) * t298)) == (wrap64 ((rd t295 x106_2) * t288))) = true := beq_iff_eq.mpr c75
                       have c75b1 : ((wrap64 ((rd t292 x106_2) * t298)) != (wrap64 ((rd t295 x106_2) * t288))) = false := bne_eq_false_iff_eq.mpr c75
                       clear c75
                       by_cases c76 : 0 < (t289.length : Int)
                       ·rw [if_pos c76] at H
                        have c76b0 : decide (0 < (t289.length : Int)) = true := decide_eq_true c76
                        have c76b1 : decide (0 < t289.length) = true := decide_eq_true (by omega)
                        clear c76
                        by_cases c77 : (rd t289 0) < (rd t289 (rd (rd_L2 t285 x106_2) 0))
                        ·rw [if_pos c77] at H
                         exact (laws_FnCurrents.no_false HT H).elim
                        ·rw [if_neg c77] at H
                         have c77b0 : decide ((rd t289 0) < (rd t289 (rd (rd_L2 t285 x106_2) 0))) = false := decide_eq_false c77
                         clear c77
                         by_cases c82 : (rd t289 (rd (rd_L2 t285 x106_2) 0)) < 0
                         ·rw [if_pos c82] at H
                          exact (laws_FnCurrents.no_false HT H).elim
                         ·rw [if_neg c82] at H
                          have c82b0 : decide ((rd t289 (rd (rd_L2 t285 x106_2) 0)) < 0) = false := decide_eq_false c82
                          clear c82
                          by_cases c87 : (rd (rd_L2 t285 x106_2) 0) < (x11_2.length : Int)
                          ·rw [if_pos c87] at H
                           have c87b0 : decide ((rd (rd_L2 t285 x106_2) 0) < (x11_2.length : Int)) = true := decide_eq_true c87
                           clear c87
                           obtain ⟨y323, hy323⟩ : ∃ y_ : List Int, y_ = (x11_2.set ((rd (rd_L2 t285 x106_2) 0) : Int).toNat (wrap64 ((rd x11_2 (rd (rd_L2 t285 x106_2) 0)) + (rd t292 x106_2)))) := ⟨_, rfl⟩
                           replace H : (if (rd (rd_L2 t285 x106_2) 1) < (x11_2.length : Int) then (laws_FnCurrents.l0 k2 l0 t284 t285 t288 t289 t292 t295 t298 t299 (y323.set ((rd (rd_L2 t285 x106_2) 1) : Int).toNat (wrap64 ((rd y323 (rd (rd_L2 t285 x106_2) 1)) - (rd t292 x106_2)))) (t285.length : Int) (wrap64 (x106_2 + 1))) else (none)) = some r := by first | (rw [hy323]; with_reducible exact H) | (have H2_ := (Option.bind_some _ _).symm.trans H; rw [hy323]; with_reducible exact H2_) | (have H2_ := (Option.bind_some _ _).symm.trans H; with_reducible exact H2_) | with_reducible exact H | (rw [hy323]; exact H) | exact H
                           have Ny323 := Aside0.mk hy323
                           clear hy323
                           by_cases c89 : (rd (rd_L2 t285 x106_2) 1) < (x11_2.length : Int)
                           ·rw [if_pos c89] at H
                            have c89b0 : decide ((rd (rd_L2 t285 x106_2) 1) < (x11_2.length : Int)) = true := decide_eq_true c89
                            clear c89
                            obtain ⟨y328, hy328⟩ : ∃ y_ : List Int, y_ = (y323.set ((rd (rd_L2 t285 x106_2) 1) : Int).toNat (wrap64 ((rd y323 (rd (rd_L2 t285 x106_2) 1)) - (rd t292 x106_2)))) := ⟨_, rfl⟩
                            replace H : (laws_FnCurrents.l0 k2 l0 t284 t285 t288 t289 t292 t295 t298 t299 y328 (t285.length : Int) (wrap64 (x106_2 + 1))) = some r := by first | (rw [hy328]; with_reducible exact H) | (have H2_ := (Option.bind_some _ _).symm.trans H; rw [hy328]; with_reducible exact H2_) | (have H2_ := (Option.bind_some _ _).symm.trans H; with_reducible exact H2_) | with_reducible exact H | (rw [hy328]; exact H) | exact H
                            have Ny328 := Aside0.mk hy328
                            clear hy328
                            have H' := Aside0.mk H
                            clear H
                            have p306 : 0 ≤ (x106_2 : Int) := of_decide_eq_true (by first | (with_reducible assumption) | assumption)
                            have q306 : x106_2 < (t285.length : Int) := of_decide_eq_true (by first | (with_reducible assumption) | assumption)
                            obtain ⟨ad306, A306_0, c306_0, e306, hx306_0, hl306_0, hi306_0⟩ := at_L2 (Kd.S_reads' HO_4.out).2.2 x106_2 p306 q306
                            cases e306
                            obtain ⟨ce306, hce306, hMe306, hcc306⟩ := Kd.S_get HO_4.out [] x106_2 p306 (by first | exact q306 | exact of_decide_eq_true (by first | (with_reducible assumption) | assumption) | (have e_ := (Kd.S_reads' HO_4.out).1; omega))
                            obtain ⟨ve306_0, rfl, ge306_0⟩ := hMe306
                            have hv306_0 := hcc306 0 _ rfl
                            rw [Nat.add_zero, show ((Kd.slice 3 (Kd.int .i64))).sz = 1 from rfl, Nat.mul_one] at hv306_0
                            replace hv306_0 := Option.some.inj (hv306_0.symm.trans hx306_0)
                            rw [hv306_0] at ge306_0
                            have HL306_0 := Aside0.mk (show Kd.R (Kd.int .i64) 3 _ _ _ _ (rd_L2 t285 x106_2) from ge306_0)
                            clear hv306_0 ge306_0
                            clear hcc306 hce306
                            have HR306_0 := Aside0.mk hi306_0
                            have HC306_0 := Aside0.mk hl306_0
                            clear hi306_0 hl306_0
                            replace p306 := eq_true p306
                            replace q306 := eq_true q306
                            as_aux_lemma =>
                             try go_wp2
                             have n0_ := Aside0.mk (Kd.S_drew HO_4.out)
                             have n1_ := Aside0.mk (Kd.R_drew HO_6.out)
                             have n2_ := Aside0.mk (Kd.R_drew HO_7.out)
                             have n3_ := Aside0.mk (Kd.R_drew HO_8.out)
                             have n4_ := Aside0.mk (Kd.R_drew HO_11.out)
                             have n5_ := Aside0.mk (Kd.R_drew HL306_0.out)
                             have n6_ := Aside0.mk (Kd.C_drew HR306_0.out)
                             have n7_ := Aside0.mk (below_drew1 HB.out)
                             clear HO_4
                             clear HO_6
                             clear HO_7
                             clear HO_8
                             clear HO_11
                             clear HL306_0
                             clear HR306_0
                             clear HB
                             have HO_4 := n0_
                             have HO_6 := n1_
                             have HO_7 := n2_
                             have HO_8 := n3_
                             have HO_11 := n4_
                             have HL306_0 := n5_
                             have HR306_0 := n6_
                             have HB := n7_
                             clear n0_ n1_ n2_ n3_ n4_ n5_ n6_ n7_
                             obtain ⟨Ao92, co92, eo92⟩ := Kd.R_slice HO_7.out
                             (first | subst eo92 | (injection eo92 with f1_ f2_ f3_; have f4_ := f1_.symm; have f5_ := f3_.symm; clear f1_ f2_ f3_; subst f4_; subst f5_))
                             have p307 : 0 ≤ (x106_2 : Int) := of_decide_eq_true (by first | (with_reducible assumption) | assumption)
                             have q307 : x106_2 < (t292.length : Int) := of_decide_eq_true (by first | (with_reducible assumption) | assumption)
                             obtain ⟨ad307, e307, hx307_0⟩ := Kd.at_int (Kd.R_reads' HO_7.out).2.2 x106_2 p307 q307
                             cases e307
                             replace p307 := eq_true p307
                             replace q307 := eq_true q307
                             have p308 : 0 ≤ (0 : Int) := (by omega)
                             have q308 : 0 < ((rd_L2 t285 x106_2).length : Int) := of_decide_eq_true (by first | (with_reducible assumption) | assumption)
                             obtain ⟨ad308, e308, hx308_0⟩ := Kd.at_int (by repeat (first | (with_reducible exact HR306_0.out) | (with_reducible refine Kd.C_alloc ?_ _) | (with_reducible refine Kd.C_drewN ?_ _) | (with_reducible refine Kd.C_drew ?_) | exact HR306_0.out)) 0 p308 q308
                             cases e308
                             have qi308 : (0 < (rd_L2 t285 x106_2).length) = True := eq_true (by omega)
                             (try rw [show ((0 : Int)).toNat = 0 from rfl] at hx308_0)
                             (try rw [Addr.add_zero'] at hx308_0)
                             replace p308 := eq_true p308
                             replace q308 := eq_true q308
                             obtain ⟨Ao93, co93, eo93⟩ := Kd.R_slice HO_6.out
                             (first | subst eo93 | (injection eo93 with f1_ f2_ f3_; have f4_ := f1_.symm; have f5_ := f3_.symm; clear f1_ f2_ f3_; subst f4_; subst f5_))
                             have p309 : 0 ≤ ((rd (rd_L2 t285 x106_2) 0) : Int) := of_decide_eq_true (by first | (with_reducible assumption) | assumption)
                             have q309 : (rd (rd_L2 t285 x106_2) 0) < (t289.length : Int) := of_decide_eq_true (by first | (with_reducible assumption) | assumption)
                             obtain ⟨ad309, e309, hx309_0⟩ := Kd.at_int (Kd.R_reads' HO_6.out).2.2 (rd (rd_L2 t285 x106_2) 0) p309 q309
                             cases e309
                             replace p309 := eq_true p309
                             replace q309 := eq_true q309
                             have p310 : 0 ≤ (1 : Int) := (by omega)
                             have q310 : 1 < ((rd_L2 t285 x106_2).length : Int) := of_decide_eq_true (by first | (with_reducible assumption) | assumption)
                             obtain ⟨ad310, e310, hx310_0⟩ := Kd.at_int (by repeat (first | (with_reducible exact HR306_0.out) | (with_reducible refine Kd.C_alloc ?_ _) | (with_reducible refine Kd.C_drewN ?_ _) | (with_reducible refine Kd.C_drew ?_) | exact HR306_0.out)) 1 p310 q310
                             obtain rfl : ad308 = ad310 := (by injection e310)
                             (try simp only [show (1 : Int).toNat = 1 from rfl, Nat.reduceMul, Nat.reduceEqDiff, Go.Addr.add, ↓reduceIte] at hx310_0)
                             have qi310 : (1 < (rd_L2 t285 x106_2).length) = True := eq_true (by omega)
                             (try rw [show ((1 : Int)).toNat = 1 from rfl] at hx310_0)
                             replace p310 := eq_true p310
                             replace q310 := eq_true q310
                             have p311 : 0 ≤ ((rd (rd_L2 t285 x106_2) 1) : Int) := of_decide_eq_true (by first | (with_reducible assumption) | assumption)
                             have q311 : (rd (rd_L2 t285 x106_2) 1) < (t289.length : Int) := of_decide_eq_true (by first | (with_reducible assumption) | assumption)
                             obtain ⟨ad311, e311, hx311_0⟩ := Kd.at_int (Kd.R_reads' HO_6.out).2.2 (rd (rd_L2 t285 x106_2) 1) p311 q311
                             obtain rfl : ad309 = ad311 := (by injection e311)
                             replace p311 := eq_true p311
                             replace q311 := eq_true q311
                             have p312 : 0 ≤ (x106_2 : Int) := of_decide_eq_true (by first | (with_reducible assumption) | assumption)
                             have q312 : x106_2 < (t292.length : Int) := of_decide_eq_true (by first | (with_reducible assumption) | assumption)
                             obtain ⟨ad312, e312, hx312_0⟩ := Kd.at_int (Kd.R_reads' HO_7.out).2.2 x106_2 p312 q312
                             obtain rfl : ad307 = ad312 := (by injection e312)
                             replace p312 := eq_true p312
                             replace q312 := eq_true q312
                             obtain ⟨Ao94, co94, eo94⟩ := Kd.R_slice HO_8.out
                             (first | subst eo94 | (injection eo94 with f1_ f2_ f3_; have f4_ := f1_.symm; have f5_ := f3_.symm; clear f1_ f2_ f3_; subst f4_; subst f5_))
                             have p313 : 0 ≤ (x106_2 : Int) := of_decide_eq_true (by first | (with_reducible assumption) | assumption)
                             have q313 : x106_2 < (t295.length : Int) := of_decide_eq_true (by first | (with_reducible assumption) | assumption)
                             obtain ⟨ad313, e313, hx313_0⟩ := Kd.at_int (Kd.R_reads' HO_8.out).2.2 x106_2 p313 q313
                             cases e313
                             replace p313 := eq_true p313
                             replace q313 := eq_true q313
                             have p314 : 0 ≤ (0 : Int) := (by omega)
                             have q314 : 0 < (t289.length : Int) := of_decide_eq_true (by first | (with_reducible assumption) | assumption)
                             obtain ⟨ad314, e314, hx314_0⟩ := Kd.at_int (Kd.R_reads' HO_6.out).2.2 0 p314 q314
                             obtain rfl : ad309 = ad314 := (by injection e314)
                             have qi314 : (0 < t289.length) = True := eq_true (by omega)
                             (try rw [show ((0 : Int)).toNat = 0 from rfl] at hx314_0)
                             (try rw [Addr.add_zero'] at hx314_0)
                             replace p314 := eq_true p314
                             replace q314 := eq_true q314
                             have p315 : 0 ≤ (0 : Int) := (by omega)
                             have q315 : 0 < ((rd_L2 t285 x106_2).length : Int) := of_decide_eq_true (by first | (with_reducible assumption) | assumption)
                             obtain ⟨ad315, e315, hx315_0⟩ := Kd.at_int (by repeat (first | (with_reducible exact HR306_0.out) | (with_reducible refine Kd.C_alloc ?_ _) | (with_reducible refine Kd.C_drewN ?_ _) | (with_reducible refine Kd.C_drew ?_) | exact HR306_0.out)) 0 p315 q315
                             obtain rfl : ad308 = ad315 := (by injection e315)
                             have qi315 : (0 < (rd_L2 t285 x106_2).length) = True := eq_true (by omega)
                             (try rw [show ((0 : Int)).toNat = 0 from rfl] at hx315_0)
                             (try rw [Addr.add_zero'] at hx315_0)
                             replace p315 := eq_true p315
                             replace q315 := eq_true q315
                             have p316 : 0 ≤ ((rd (rd_L2 t285 x106_2) 0) : Int) := of_decide_eq_true (by first | (with_reducible assumption) | assumption)
                             have q316 : (rd (rd_L2 t285 x106_2) 0) < (t289.length : Int) := of_decide_eq_true (by first | (with_reducible assumption) | assumption)
                             obtain ⟨ad316, e316, hx316_0⟩ := Kd.at_int (Kd.R_reads' HO_6.out).2.2 (rd (rd_L2 t285 x106_2) 0) p316 q316
                             obtain rfl : ad309 = ad316 := (by injection e316)
                             replace p316 := eq_true p316
                             replace q316 := eq_true q316
                             have p317 : 0 ≤ (0 : Int) := (by omega)
                             have q317 : 0 < ((rd_L2 t285 x106_2).length : Int) := of_decide_eq_true (by first | (with_reducible assumption) | assumption)
                             obtain ⟨ad317, e317, hx317_0⟩ := Kd.at_int (by repeat (first | (with_reducible exact HR306_0.out) | (with_reducible refine Kd.C_alloc ?_ _) | (with_reducible refine Kd.C_drewN ?_ _) | (with_reducible refine Kd.C_drew ?_) | exact HR306_0.out)) 0 p317 q317
                             obtain rfl : ad308 = ad317 := (by injection e317)
                             have qi317 : (0 < (rd_L2 t285 x106_2).length) = True := eq_true (by omega)
                             (try rw [show ((0 : Int)).toNat = 0 from rfl] at hx317_0)
                             (try rw [Addr.add_zero'] at hx317_0)
                             replace p317 := eq_true p317
                             replace q317 := eq_true q317
                             have p318 : 0 ≤ ((rd (rd_L2 t285 x106_2) 0) : Int) := of_decide_eq_true (by first | (with_reducible assumption) | assumption)
                             have q318 : (rd (rd_L2 t285 x106_2) 0) < (t289.length : Int) := of_decide_eq_true (by first | (with_reducible assumption) | assumption)
                             obtain ⟨ad318, e318, hx318_0⟩ := Kd.at_int (Kd.R_reads' HO_6.out).2.2 (rd (rd_L2 t285 x106_2) 0) p318 q318
                             obtain rfl : ad309 = ad318 := (by injection e318)
                             replace p318 := eq_true p318
                             replace q318 := eq_true q318
                             refine start_ (n := 54) (S := fun w' => w'.cell? (ad307.add (x106_2).toNat) = some (.int .i64 (rd t292 x106_2)) ∧ w'.cell? ad308 = some (.int .i64 (rd (rd_L2 t285 x106_2) 0)) ∧ w'.cell? (ad309.add ((rd (rd_L2 t285 x106_2) 0)).toNat) = some (.int .i64 (rd t289 (rd (rd_L2 t285 x106_2) 0))) ∧ w'.cell? ⟨ad308.block, ad308.off + 1, none⟩ = some (.int .i64 (rd (rd_L2 t285 x106_2) 1)) ∧ w'.cell? (ad309.add ((rd (rd_L2 t285 x106_2) 1)).toNat) = some (.int .i64 (rd t289 (rd (rd_L2 t285 x106_2) 1))) ∧ w'.cell? (ad307.add (x106_2).toNat) = some (.int .i64 (rd t292 x106_2)) ∧ w'.cell? (ad313.add (x106_2).toNat) = some (.int .i64 (rd t295 x106_2)) ∧ w'.cell? ad309 = some (.int .i64 (rd t289 0)) ∧ w'.cell? ad308 = some (.int .i64 (rd (rd_L2 t285 x106_2) 0)) ∧ w'.cell? (ad309.add ((rd (rd_L2 t285 x106_2) 0)).toNat) = some (.int .i64 (rd t289 (rd (rd_L2 t285 x106_2) 0))) ∧ w'.cell? ad308 = some (.int .i64 (rd (rd_L2 t285 x106_2) 0)) ∧ w'.cell? (ad309.add ((rd (rd_L2 t285 x106_2) 0)).toNat) = some (.int .i64 (rd t289 (rd (rd_L2 t285 x106_2) 0)))) (ds := []) (laws_FnCurrents.qB 54 0) (by kernel_rfl) rfl rfl ⟨hx307_0, hx308_0, hx309_0, hx310_0, hx311_0, hx312_0, hx313_0, hx314_0, hx315_0, hx316_0, hx317_0, hx318_0⟩ (fun hHeld => ?_); refine with_tabW laws_FnCurrents.tab15 laws_FnCurrents.bits15 (fun HT_ HW_ => ?_)
                             generalize wr.drew = w91 at HO_4 HO_6 HO_7 HO_8 HO_11 HL306_0 HR306_0 HB hx307_0 hx308_0 hx309_0 hx310_0 hx311_0 hx312_0 hx313_0 hx314_0 hx315_0 hx316_0 hx317_0 hx318_0 hHeld ⊢
                             refine pure_ (i := 0) (N := some 111) (v := ?_) (a' := ?_) (laws_FnCurrents.qB 54 1) rfl rfl (any_of HT_.out (by kernel_rfl)) (fun _ _ _ h => h) (Or.inl ⟨by rfl, ?_⟩) ?_ ?_
                             rotate_left; (intro w'; go_simp; with_reducible rfl); rotate_left; (simp only [Act.put, List.setIfInBounds_toArray, List.set_cons_zero, List.set_cons_succ, i64_w, i32_w]; rfl)
                             refine pure_ (i := 1) (N := some 112) (v := ?_) (a' := ?_) (laws_FnCurrents.qB 54 3) rfl rfl (any_of HT_.out (by kernel_rfl)) (fun _ _ _ h => h) (Or.inl ⟨by rfl, ?_⟩) ?_ ?_
                             rotate_left; (intro w'; go_simp; with_reducible rfl); rotate_left; (simp only [Act.put, List.setIfInBounds_toArray, List.set_cons_zero, List.set_cons_succ, i64_w, i32_w]; rfl)
                             refine pure_ (i := 2) (N := some 113) (v := ?_) (a' := ?_) (laws_FnCurrents.qB 54 7) rfl rfl (any_of HT_.out (by kernel_rfl)) (fun _ _ _ h => h) (Or.inl ⟨by rfl, ?_⟩) ?_ ?_
                             rotate_left; (intro w'; go_simp; with_reducible rfl); rotate_left; (simp only [Act.put, List.setIfInBounds_toArray, List.set_cons_zero, List.set_cons_succ, i64_w, i32_w]; rfl)
                             refine pure_ (i := 4) (N := some 115) (v := ?_) (a' := ?_) (laws_FnCurrents.qB 54 23) rfl rfl (any_of HT_.out (by kernel_rfl)) (fun _ _ _ h => h) (Or.inl ⟨by rfl, ?_⟩) ?_ ?_
                             rotate_left; (intro w'; go_simp; with_reducible rfl); rotate_left; (simp only [Act.put, List.setIfInBounds_toArray, List.set_cons_zero, List.set_cons_succ, i64_w, i32_w]; rfl)
                             refine pure_ (i := 5) (N := some 116) (v := ?_) (a' := ?_) (laws_FnCurrents.qB 54 55) rfl rfl (any_of HT_.out (by kernel_rfl)) (fun _ _ _ h => h) (Or.inl ⟨by rfl, ?_⟩) ?_ ?_
                             rotate_left; (intro w'; go_simp; with_reducible rfl); rotate_left; (simp only [Act.put, List.setIfInBounds_toArray, List.set_cons_zero, List.set_cons_succ, i64_w, i32_w]; rfl)
                             refine pure_ (i := 6) (N := some 117) (v := ?_) (a' := ?_) (laws_FnCurrents.qB 54 119) rfl rfl (any_of HT_.out (by kernel_rfl)) (fun _ _ _ h => h) (Or.inl ⟨by rfl, ?_⟩) ?_ ?_
                             rotate_left; (intro w'; go_simp; with_reducible rfl); rotate_left; (simp only [Act.put, List.setIfInBounds_toArray, List.set_cons_zero, List.set_cons_succ, i64_w, i32_w]; rfl)
                             refine pure_ (i := 10) (N := some 121) (v := ?_) (a' := ?_) (laws_FnCurrents.qB 54 1143) rfl rfl (any_of HT_.out (by kernel_rfl)) (fun _ _ _ h => h) (Or.inl ⟨by rfl, ?_⟩) ?_ ?_
                             rotate_left; (intro w'; go_simp; with_reducible rfl); rotate_left; (simp only [Act.put, List.setIfInBounds_toArray, List.set_cons_zero, List.set_cons_succ, i64_w, i32_w]; rfl)
                             refine pure_ (i := 11) (N := some 122) (v := ?_) (a' := ?_) (laws_FnCurrents.qB 54 3191) rfl rfl (any_of HT_.out (by kernel_rfl)) (fun _ _ _ h => h) (Or.inl ⟨by rfl, ?_⟩) ?_ ?_
                             rotate_left; (intro w'; go_simp; with_reducible rfl); rotate_left; (simp only [Act.put, List.setIfInBounds_toArray, List.set_cons_zero, List.set_cons_succ, i64_w, i32_w]; rfl)
                             refine pure_ (i := 12) (N := some 123) (v := ?_) (a' := ?_) (laws_FnCurrents.qB 54 7287) rfl rfl (any_of HT_.out (by kernel_rfl)) (fun _ _ _ h => h) (Or.inl ⟨by rfl, ?_⟩) ?_ ?_
                             rotate_left; (intro w'; go_simp; with_reducible rfl); rotate_left; (simp only [Act.put, List.setIfInBounds_toArray, List.set_cons_zero, List.set_cons_succ, i64_w, i32_w]; rfl)
                             refine take_ (i := 3) (N := some 114) (v := ?_) (a' := ?_) (laws_FnCurrents.qB 54 7295) rfl rfl (take_ofW HT_.out HW_.out (by kernel_rfl)) (fun _ _ _ h => h) (Or.inl ⟨by rfl, ?_⟩) hHeld ?_ ?_
                             rotate_left; (rintro w' ⟨s0, s1, s2, s3, s4, s5, s6, s7, s8, s9, s10, s11⟩; go_simp; with_reducible rfl); rotate_left; (simp only [Act.put, List.setIfInBounds_toArray, List.set_cons_zero, List.set_cons_succ, i64_w, i32_w]; rfl)
                             refine take_ (i := 7) (N := some 118) (v := ?_) (a' := ?_) (laws_FnCurrents.qB 54 7423) rfl rfl (take_ofW HT_.out HW_.out (by kernel_rfl)) (fun _ _ _ h => h) (Or.inl ⟨by rfl, ?_⟩) hHeld ?_ ?_
                             rotate_left; (rintro w' ⟨s0, s1, s2, s3, s4, s5, s6, s7, s8, s9, s10, s11⟩; go_simp; with_reducible rfl); rotate_left; (simp only [Act.put, List.setIfInBounds_toArray, List.set_cons_zero, List.set_cons_succ, i64_w, i32_w]; rfl)
                             refine pure_ (i := 8) (N := some 119) (v := ?_) (a' := ?_) (laws_FnCurrents.qB 54 7679) rfl rfl (any_of HT_.out (by kernel_rfl)) (fun _ _ _ h => h) (Or.inl ⟨by rfl, ?_⟩) ?_ ?_
                             rotate_left; (intro w'; go_simp; with_reducible rfl); rotate_left; (simp only [Act.put, List.setIfInBounds_toArray, List.set_cons_zero, List.set_cons_succ, i64_w, i32_w]; rfl)
                             refine take_ (i := 9) (N := some 120) (v := ?_) (a' := ?_) (laws_FnCurrents.qB 54 8191) rfl rfl (take_ofW HT_.out HW_.out (by kernel_rfl)) (fun _ _ _ h => h) (Or.inl ⟨by rfl, ?_⟩) hHeld ?_ ?_
                             rotate_left; (rintro w' ⟨s0, s1, s2, s3, s4, s5, s6, s7, s8, s9, s10, s11⟩; go_simp; with_reducible rfl); rotate_left; (simp only [Act.put, List.setIfInBounds_toArray, List.set_cons_zero, List.set_cons_succ, i64_w, i32_w]; rfl)
                             refine take_ (i := 13) (N := some 124) (v := ?_) (a' := ?_) (laws_FnCurrents.qB 54 16383) rfl rfl (take_ofW HT_.out HW_.out (by kernel_rfl)) (fun _ _ _ h => h) (Or.inl ⟨by rfl, ?_⟩) hHeld ?_ ?_
                             rotate_left; (rintro w' ⟨s0, s1, s2, s3, s4, s5, s6, s7, s8, s9, s10, s11⟩; go_simp; with_reducible rfl); rotate_left; (simp only [Act.put, List.setIfInBounds_toArray, List.set_cons_zero, List.set_cons_succ, i64_w, i32_w]; rfl)
                             refine pure_ (i := 14) (N := some 125) (v := ?_) (a' := ?_) (laws_FnCurrents.qB 54 32767) rfl rfl (any_of HT_.out (by kernel_rfl)) (fun _ _ _ h => h) (Or.inl ⟨by rfl, ?_⟩) ?_ ?_
                             rotate_left; (intro w'; go_simp; with_reducible rfl); rotate_left; (simp only [Act.put, List.setIfInBounds_toArray, List.set_cons_zero, List.set_cons_succ, i64_w, i32_w]; rfl)
                             refine take_ (i := 15) (N := some 126) (v := ?_) (a' := ?_) (laws_FnCurrents.qB 54 65535) rfl rfl (take_ofW HT_.out HW_.out (by kernel_rfl)) (fun _ _ _ h => h) (Or.inl ⟨by rfl, ?_⟩) hHeld ?_ ?_
                             rotate_left; (rintro w' ⟨s0, s1, s2, s3, s4, s5, s6, s7, s8, s9, s10, s11⟩; go_simp; with_reducible rfl); rotate_left; (simp only [Act.put, List.setIfInBounds_toArray, List.set_cons_zero, List.set_cons_succ, i64_w, i32_w]; rfl)
                             refine pure_ (i := 16) (N := some 127) (v := ?_) (a' := ?_) (laws_FnCurrents.qB 54 131071) rfl rfl (any_of HT_.out (by kernel_rfl)) (fun _ _ _ h => h) (Or.inl ⟨by rfl, ?_⟩) ?_ ?_
                             rotate_left; (intro w'; go_simp; with_reducible rfl); rotate_left; (simp only [Act.put, List.setIfInBounds_toArray, List.set_cons_zero, List.set_cons_succ, i64_w, i32_w]; rfl)
                             refine pure_ (i := 17) (N := some 128) (v := ?_) (a' := ?_) (laws_FnCurrents.qB 54 262143) rfl rfl (any_of HT_.out (by kernel_rfl)) (fun _ _ _ h => h) (Or.inl ⟨by rfl, ?_⟩) ?_ ?_
                             rotate_left; (intro w'; go_simp; with_reducible rfl); rotate_left; (simp only [Act.put, List.setIfInBounds_toArray, List.set_cons_zero, List.set_cons_succ, i64_w, i32_w]; rfl)
                             refine pure_ (i := 18) (N := some 129) (v := ?_) (a' := ?_) (laws_FnCurrents.qB 54 524287) rfl rfl (any_of HT_.out (by kernel_rfl)) (fun _ _ _ h => h) (Or.inl ⟨by rfl, ?_⟩) ?_ ?_
                             rotate_left; (intro w'; go_simp; with_reducible rfl); rotate_left; (simp only [Act.put, List.setIfInBounds_toArray, List.set_cons_zero, List.set_cons_succ, i64_w, i32_w]; rfl)
                             refine pure_ (i := 19) (N := some 130) (v := ?_) (a' := ?_) (laws_FnCurrents.qB 54 1048575) rfl rfl (any_of HT_.out (by kernel_rfl)) (fun _ _ _ h => h) (Or.inl ⟨by rfl, ?_⟩) ?_ ?_
                             rotate_left; (intro w'; go_simp; with_reducible rfl); rotate_left; (simp only [Act.put, List.setIfInBounds_toArray, List.set_cons_zero, List.set_cons_succ, i64_w, i32_w]; rfl)
                             refine pure_ (i := 20) (N := some 131) (v := ?_) (a' := ?_) (laws_FnCurrents.qB 54 2097151) rfl rfl (any_of HT_.out (by kernel_rfl)) (fun _ _ _ h => h) (Or.inl ⟨by rfl, ?_⟩) ?_ ?_
                             rotate_left; (intro w'; go_simp; with_reducible rfl); rotate_left; (simp only [Act.put, List.setIfInBounds_toArray, List.set_cons_zero, List.set_cons_succ, i64_w, i32_w]; rfl)
                             refine pure_ (i := 21) (N := some 132) (v := ?_) (a' := ?_) (laws_FnCurrents.qB 54 4194303) rfl rfl (any_of HT_.out (by kernel_rfl)) (fun _ _ _ h => h) (Or.inl ⟨by rfl, ?_⟩) ?_ ?_
                             rotate_left; (intro w'; go_simp; with_reducible rfl); rotate_left; (simp only [Act.put, List.setIfInBounds_toArray, List.set_cons_zero, List.set_cons_succ, i64_w, i32_w]; rfl)
                             refine pure_ (i := 23) (N := some 134) (v := ?_) (a' := ?_) (laws_FnCurrents.qB 54 12582911) rfl rfl (any_of HT_.out (by kernel_rfl)) (fun _ _ _ h => h) (Or.inl ⟨by rfl, ?_⟩) ?_ ?_
                             rotate_left; (intro w'; go_simp; with_reducible rfl); rotate_left; (simp only [Act.put, List.setIfInBounds_toArray, List.set_cons_zero, List.set_cons_succ, i64_w, i32_w]; rfl)
                             refine pure_ (i := 25) (N := some 136) (v := ?_) (a' := ?_) (laws_FnCurrents.qB 54 46137343) rfl rfl (any_of HT_.out (by kernel_rfl)) (fun _ _ _ h => h) (Or.inl ⟨by rfl, ?_⟩) ?_ ?_
                             rotate_left; (intro w'; go_simp; with_reducible rfl); rotate_left; (simp only [Act.put, List.setIfInBounds_toArray, List.set_cons_zero, List.set_cons_succ, i64_w, i32_w]; rfl)
                             refine pure_ (i := 26) (N := some 137) (v := ?_) (a' := ?_) (laws_FnCurrents.qB 54 113246207) rfl rfl (any_of HT_.out (by kernel_rfl)) (fun _ _ _ h => h) (Or.inl ⟨by rfl, ?_⟩) ?_ ?_
                             rotate_left; (intro w'; go_simp; with_reducible rfl); rotate_left; (simp only [Act.put, List.setIfInBounds_toArray, List.set_cons_zero, List.set_cons_succ, i64_w, i32_w]; rfl)
                             refine pure_ (i := 27) (N := some 138) (v := ?_) (a' := ?_) (laws_FnCurrents.qB 54 247463935) rfl rfl (any_of HT_.out (by kernel_rfl)) (fun _ _ _ h => h) (Or.inl ⟨by rfl, ?_⟩) ?_ ?_
                             rotate_left; (intro w'; go_simp; with_reducible rfl); rotate_left; (simp only [Act.put, List.setIfInBounds_toArray, List.set_cons_zero, List.set_cons_succ, i64_w, i32_w]; rfl)
                             refine pure_ (i := 29) (N := some 140) (v := ?_) (a' := ?_) (laws_FnCurrents.qB 54 784334847) rfl rfl (any_of HT_.out (by kernel_rfl)) (fun _ _ _ h => h) (Or.inl ⟨by rfl, ?_⟩) ?_ ?_
                             rotate_left; (intro w'; go_simp; with_reducible rfl); rotate_left; (simp only [Act.put, List.setIfInBounds_toArray, List.set_cons_zero, List.set_cons_succ, i64_w, i32_w]; rfl)
                             refine take_ (i := 22) (N := some 133) (v := ?_) (a' := ?_) (laws_FnCurrents.qB 54 788529151) rfl rfl (take_ofW HT_.out HW_.out (by kernel_rfl)) (fun _ _ _ h => h) (Or.inl ⟨by rfl, ?_⟩) hHeld ?_ ?_
                             rotate_left; (rintro w' ⟨s0, s1, s2, s3, s4, s5, s6, s7, s8, s9, s10, s11⟩; go_simp; with_reducible rfl); rotate_left; (simp only [Act.put, List.setIfInBounds_toArray, List.set_cons_zero, List.set_cons_succ, i64_w, i32_w]; rfl)
                             refine pure_ (i := 24) (N := some 135) (v := ?_) (a' := ?_) (laws_FnCurrents.qB 54 805306367) rfl rfl (any_of HT_.out (by kernel_rfl)) (fun _ _ _ h => h) (Or.inl ⟨by rfl, ?_⟩) ?_ ?_
                             rotate_left; (intro w'; go_simp; with_reducible rfl); rotate_left; (simp only [Act.put, List.setIfInBounds_toArray, List.set_cons_zero, List.set_cons_succ, i64_w, i32_w]; rfl)
                             refine take_ (i := 28) (N := some 139) (v := ?_) (a' := ?_) (laws_FnCurrents.qB 54 1073741823) rfl rfl (take_ofW HT_.out HW_.out (by kernel_rfl)) (fun _ _ _ h => h) (Or.inl ⟨by rfl, ?_⟩) hHeld ?_ ?_
                             rotate_left; (rintro w' ⟨s0, s1, s2, s3, s4, s5, s6, s7, s8, s9, s10, s11⟩; go_simp; with_reducible rfl); rotate_left; (simp only [Act.put, List.setIfInBounds_toArray, List.set_cons_zero, List.set_cons_succ, i64_w, i32_w]; rfl)
                             refine pure_ (i := 30) (N := some 141) (v := ?_) (a' := ?_) (laws_FnCurrents.qB 54 2147483647) rfl rfl (any_of HT_.out (by kernel_rfl)) (fun _ _ _ h => h) (Or.inl ⟨by rfl, ?_⟩) ?_ ?_
                             rotate_left; (intro w'; go_simp; with_reducible rfl); rotate_left; (simp only [Act.put, List.setIfInBounds_toArray, List.set_cons_zero, List.set_cons_succ, i64_w, i32_w]; rfl)
                             refine pure_ (i := 31) (N := some 142) (v := ?_) (a' := ?_) (laws_FnCurrents.qB 54 4294967295) rfl rfl (any_of HT_.out (by kernel_rfl)) (fun _ _ _ h => h) (Or.inl ⟨by rfl, ?_⟩) ?_ ?_
                             rotate_left; (intro w'; go_simp; with_reducible rfl); rotate_left; (simp only [Act.put, List.setIfInBounds_toArray, List.set_cons_zero, List.set_cons_succ, i64_w, i32_w]; rfl)
                             refine pure_ (i := 32) (N := some 143) (v := ?_) (a' := ?_) (laws_FnCurrents.qB 54 8589934591) rfl rfl (any_of HT_.out (by kernel_rfl)) (fun _ _ _ h => h) (Or.inl ⟨by rfl, ?_⟩) ?_ ?_
                             rotate_left; (intro w'; go_simp; with_reducible rfl); rotate_left; (simp only [Act.put, List.setIfInBounds_toArray, List.set_cons_zero, List.set_cons_succ, i64_w, i32_w]; rfl)
                             refine pure_ (i := 33) (N := some 144) (v := ?_) (a' := ?_) (laws_FnCurrents.qB 54 17179869183) rfl rfl (any_of HT_.out (by kernel_rfl)) (fun _ _ _ h => h) (Or.inl ⟨by rfl, ?_⟩) ?_ ?_
                             rotate_left; (intro w'; go_simp; with_reducible rfl); rotate_left; (simp only [Act.put, List.setIfInBounds_toArray, List.set_cons_zero, List.set_cons_succ, i64_w, i32_w]; rfl)
                             refine pure_ (i := 34) (N := some 145) (v := ?_) (a' := ?_) (laws_FnCurrents.qB 54 34359738367) rfl rfl (any_of HT_.out (by kernel_rfl)) (fun _ _ _ h => h) (Or.inl ⟨by rfl, ?_⟩) ?_ ?_
                             rotate_left; (intro w'; go_simp; with_reducible rfl); rotate_left; (simp only [Act.put, List.setIfInBounds_toArray, List.set_cons_zero, List.set_cons_succ, i64_w, i32_w]; rfl)
                             refine pure_ (i := 35) (N := some 146) (v := ?_) (a' := ?_) (laws_FnCurrents.qB 54 68719476735) rfl rfl (any_of HT_.out (by kernel_rfl)) (fun _ _ _ h => h) (Or.inl ⟨by rfl, ?_⟩) ?_ ?_
                             rotate_left; (intro w'; go_simp; with_reducible rfl); rotate_left; (simp only [Act.put, List.setIfInBounds_toArray, List.set_cons_zero, List.set_cons_succ, i64_w, i32_w]; rfl)
                             refine pure_ (i := 37) (N := some 148) (v := ?_) (a' := ?_) (laws_FnCurrents.qB 54 206158430207) rfl rfl (any_of HT_.out (by kernel_rfl)) (fun _ _ _ h => h) (Or.inl ⟨by rfl, ?_⟩) ?_ ?_
                             rotate_left; (intro w'; go_simp; with_reducible rfl); rotate_left; (simp only [Act.put, List.setIfInBounds_toArray, List.set_cons_zero, List.set_cons_succ, i64_w, i32_w]; rfl)
                             refine pure_ (i := 38) (N := some 149) (v := ?_) (a' := ?_) (laws_FnCurrents.qB 54 481036337151) rfl rfl (any_of HT_.out (by kernel_rfl)) (fun _ _ _ h => h) (Or.inl ⟨by rfl, ?_⟩) ?_ ?_
                             rotate_left; (intro w'; go_simp; with_reducible rfl); rotate_left; (simp only [Act.put, List.setIfInBounds_toArray, List.set_cons_zero, List.set_cons_succ, i64_w, i32_w]; rfl)
                             refine pure_ (i := 39) (N := some 150) (v := ?_) (a' := ?_) (laws_FnCurrents.qB 54 1030792151039) rfl rfl (any_of HT_.out (by kernel_rfl)) (fun _ _ _ h => h) (Or.inl ⟨by rfl, ?_⟩) ?_ ?_
                             rotate_left; (intro w'; go_simp; with_reducible rfl); rotate_left; (simp only [Act.put, List.setIfInBounds_toArray, List.set_cons_zero, List.set_cons_succ, i64_w, i32_w]; rfl)
                             refine take_ (i := 36) (N := some 147) (v := ?_) (a' := ?_) (laws_FnCurrents.qB 54 1099511627775) rfl rfl (take_ofW HT_.out HW_.out (by kernel_rfl)) (fun _ _ _ h => h) (Or.inl ⟨by rfl, ?_⟩) hHeld ?_ ?_
                             rotate_left; (rintro w' ⟨s0, s1, s2, s3, s4, s5, s6, s7, s8, s9, s10, s11⟩; go_simp; with_reducible rfl); rotate_left; (simp only [Act.put, List.setIfInBounds_toArray, List.set_cons_zero, List.set_cons_succ, i64_w, i32_w]; rfl)
                             refine take_ (i := 40) (N := some 151) (v := ?_) (a' := ?_) (laws_FnCurrents.qB 54 2199023255551) rfl rfl (take_ofW HT_.out HW_.out (by kernel_rfl)) (fun _ _ _ h => h) (Or.inl ⟨by rfl, ?_⟩) hHeld ?_ ?_
                             rotate_left; (rintro w' ⟨s0, s1, s2, s3, s4, s5, s6, s7, s8, s9, s10, s11⟩; go_simp; with_reducible rfl); rotate_left; (simp only [Act.put, List.setIfInBounds_toArray, List.set_cons_zero, List.set_cons_succ, i64_w, i32_w]; rfl)
                             refine pure_ (i := 41) (N := some 152) (v := ?_) (a' := ?_) (laws_FnCurrents.qB 54 4398046511103) rfl rfl (any_of HT_.out (by kernel_rfl)) (fun _ _ _ h => h) (Or.inl ⟨by rfl, ?_⟩) ?_ ?_
                             rotate_left; (intro w'; go_simp; with_reducible rfl); rotate_left; (simp only [Act.put, List.setIfInBounds_toArray, List.set_cons_zero, List.set_cons_succ, i64_w, i32_w]; rfl)
                             refine take_ (i := 42) (N := some 153) (v := ?_) (a' := ?_) (laws_FnCurrents.qB 54 8796093022207) rfl rfl (take_ofW HT_.out HW_.out (by kernel_rfl)) (fun _ _ _ h => h) (Or.inl ⟨by rfl, ?_⟩) hHeld ?_ ?_
                             rotate_left; (rintro w' ⟨s0, s1, s2, s3, s4, s5, s6, s7, s8, s9, s10, s11⟩; go_simp; with_reducible rfl); rotate_left; (simp only [Act.put, List.setIfInBounds_toArray, List.set_cons_zero, List.set_cons_succ, i64_w, i32_w]; rfl)
                             refine pure_ (i := 43) (N := some 154) (v := ?_) (a' := ?_) (laws_FnCurrents.qB 54 17592186044415) rfl rfl (any_of HT_.out (by kernel_rfl)) (fun _ _ _ h => h) (Or.inl ⟨by rfl, ?_⟩) ?_ ?_
                             rotate_left; (intro w'; go_simp; with_reducible rfl); rotate_left; (simp only [Act.put, List.setIfInBounds_toArray, List.set_cons_zero, List.set_cons_succ, i64_w, i32_w]; rfl)
                             refine pure_ (i := 44) (N := some 155) (v := ?_) (a' := ?_) (laws_FnCurrents.qB 54 35184372088831) rfl rfl (any_of HT_.out (by kernel_rfl)) (fun _ _ _ h => h) (Or.inl ⟨by rfl, ?_⟩) ?_ ?_
                             rotate_left; (intro w'; go_simp; with_reducible rfl); rotate_left; (simp only [Act.put, List.setIfInBounds_toArray, List.set_cons_zero, List.set_cons_succ, i64_w, i32_w]; rfl)
                             refine pure_ (i := 45) (N := some 156) (v := ?_) (a' := ?_) (laws_FnCurrents.qB 54 70368744177663) rfl rfl (any_of HT_.out (by kernel_rfl)) (fun _ _ _ h => h) (Or.inl ⟨by rfl, ?_⟩) ?_ ?_
                             rotate_left; (intro w'; go_simp; with_reducible rfl); rotate_left; (simp only [Act.put, List.setIfInBounds_toArray, List.set_cons_zero, List.set_cons_succ, i64_w, i32_w]; rfl)
                             refine pure_ (i := 46) (N := some 157) (v := ?_) (a' := ?_) (laws_FnCurrents.qB 54 140737488355327) rfl rfl (any_of HT_.out (by kernel_rfl)) (fun _ _ _ h => h) (Or.inl ⟨by rfl, ?_⟩) ?_ ?_
                             rotate_left; (intro w'; go_simp; with_reducible rfl); rotate_left; (simp only [Act.put, List.setIfInBounds_toArray, List.set_cons_zero, List.set_cons_succ, i64_w, i32_w]; rfl)
                             refine pure_ (i := 47) (N := some 158) (v := ?_) (a' := ?_) (laws_FnCurrents.qB 54 281474976710655) rfl rfl (any_of HT_.out (by kernel_rfl)) (fun _ _ _ h => h) (Or.inl ⟨by rfl, ?_⟩) ?_ ?_
                             rotate_left; (intro w'; go_simp; with_reducible rfl); rotate_left; (simp only [Act.put, List.setIfInBounds_toArray, List.set_cons_zero, List.set_cons_succ, i64_w, i32_w]; rfl)
                             refine pure_ (i := 48) (N := some 159) (v := ?_) (a' := ?_) (laws_FnCurrents.qB 54 562949953421311) rfl rfl (any_of HT_.out (by kernel_rfl)) (fun _ _ _ h => h) (Or.inl ⟨by rfl, ?_⟩) ?_ ?_
                             rotate_left; (intro w'; go_simp; with_reducible rfl); rotate_left; (simp only [Act.put, List.setIfInBounds_toArray, List.set_cons_zero, List.set_cons_succ, i64_w, i32_w]; rfl)
                             refine take_ (i := 49) (N := some 160) (v := ?_) (a' := ?_) (laws_FnCurrents.qB 54 1125899906842623) rfl rfl (take_ofW HT_.out HW_.out (by kernel_rfl)) (fun _ _ _ h => h) (Or.inl ⟨by rfl, ?_⟩) hHeld ?_ ?_
                             rotate_left; (rintro w' ⟨s0, s1, s2, s3, s4, s5, s6, s7, s8, s9, s10, s11⟩; go_simp; with_reducible rfl); rotate_left; (simp only [Act.put, List.setIfInBounds_toArray, List.set_cons_zero, List.set_cons_succ, i64_w, i32_w]; rfl)
                             refine pure_ (i := 50) (N := some 161) (v := ?_) (a' := ?_) (laws_FnCurrents.qB 54 2251799813685247) rfl rfl (any_of HT_.out (by kernel_rfl)) (fun _ _ _ h => h) (Or.inl ⟨by rfl, ?_⟩) ?_ ?_
                             rotate_left; (intro w'; go_simp; with_reducible rfl); rotate_left; (simp only [Act.put, List.setIfInBounds_toArray, List.set_cons_zero, List.set_cons_succ, i64_w, i32_w]; rfl)
                             refine take_ (i := 51) (N := some 162) (v := ?_) (a' := ?_) (laws_FnCurrents.qB 54 4503599627370495) rfl rfl (take_ofW HT_.out HW_.out (by kernel_rfl)) (fun _ _ _ h => h) (Or.inl ⟨by rfl, ?_⟩) hHeld ?_ ?_
                             rotate_left; (rintro w' ⟨s0, s1, s2, s3, s4, s5, s6, s7, s8, s9, s10, s11⟩; go_simp; with_reducible rfl); rotate_left; (simp only [Act.put, List.setIfInBounds_toArray, List.set_cons_zero, List.set_cons_succ, i64_w, i32_w]; rfl)
                             refine pure_ (i := 52) (N := some 163) (v := ?_) (a' := ?_) (laws_FnCurrents.qB 54 9007199254740991) rfl rfl (any_of HT_.out (by kernel_rfl)) (fun _ _ _ h => h) (Or.inl ⟨by rfl, ?_⟩) ?_ ?_
                             rotate_left; (intro w'; go_simp; with_reducible rfl); rotate_left; (simp only [Act.put, List.setIfInBounds_toArray, List.set_cons_zero, List.set_cons_succ, i64_w, i32_w]; rfl)
                             refine pure_ (i := 53) (N := some 164) (v := ?_) (a' := ?_) (laws_FnCurrents.qB 54 18014398509481983) rfl rfl (any_of HT_.out (by kernel_rfl)) (fun _ _ _ h => h) (Or.inl ⟨by rfl, ?_⟩) ?_ ?_
                             rotate_left; (intro w'; go_simp; with_reducible rfl); rotate_left; (simp only [Act.put, List.setIfInBounds_toArray, List.set_cons_zero, List.set_cons_succ, i64_w, i32_w]; rfl)
                             refine done_ (done_of HT_.out (by kernel_rfl)) ?_
                             try go_wp2
                             have n0_ := Aside0.mk (Kd.S_drew HO_4.out)
                             have n1_ := Aside0.mk (Kd.R_drew HO_6.out)
                             have n2_ := Aside0.mk (Kd.R_drew HO_7.out)
                             have n3_ := Aside0.mk (Kd.R_drew HO_8.out)
                             have n4_ := Aside0.mk (Kd.R_drew HO_11.out)
                             have n5_ := Aside0.mk (Kd.R_drew HL306_0.out)
                             have n6_ := Aside0.mk (Kd.C_drew HR306_0.out)
                             have n7_ := Aside0.mk (below_drew1 HB.out)
                             clear HO_4
                             clear HO_6
                             clear HO_7
                             clear HO_8
                             clear HO_11
                             clear HL306_0
                             clear HR306_0
                             clear HB
                             have HO_4 := n0_
                             have HO_6 := n1_
                             have HO_7 := n2_
                             have HO_8 := n3_
                             have HO_11 := n4_
                             have HL306_0 := n5_
                             have HR306_0 := n6_
                             have HB := n7_
                             clear n0_ n1_ n2_ n3_ n4_ n5_ n6_ n7_
                             have p319 : 0 ≤ (0 : Int) := (by omega)
                             have q319 : 0 < ((rd_L2 t285 x106_2).length : Int) := of_decide_eq_true (by first | (with_reducible assumption) | assumption)
                             obtain ⟨ad319, e319, hx319_0⟩ := Kd.at_int (by repeat (first | (with_reducible exact HR306_0.out) | (with_reducible refine Kd.C_alloc ?_ _) | (with_reducible refine Kd.C_drewN ?_ _) | (with_reducible refine Kd.C_drew ?_) | exact HR306_0.out)) 0 p319 q319
                             obtain rfl : ad308 = ad319 := (by injection e319)
                             have qi319 : (0 < (rd_L2 t285 x106_2).length) = True := eq_true (by omega)
                             (try rw [show ((0 : Int)).toNat = 0 from rfl] at hx319_0)
                             (try rw [Addr.add_zero'] at hx319_0)
                             replace p319 := eq_true p319
                             replace q319 := eq_true q319
                             have p320 : 0 ≤ (0 : Int) := (by omega)
                             have q320 : 0 < ((rd_L2 t285 x106_2).length : Int) := of_decide_eq_true (by first | (with_reducible assumption) | assumption)
                             obtain ⟨ad320, e320, hx320_0⟩ := Kd.at_int (by repeat (first | (with_reducible exact HR306_0.out) | (with_reducible refine Kd.C_alloc ?_ _) | (with_reducible refine Kd.C_drewN ?_ _) | (with_reducible refine Kd.C_drew ?_) | exact HR306_0.out)) 0 p320 q320
                             obtain rfl : ad308 = ad320 := (by injection e320)
                             have qi320 : (0 < (rd_L2 t285 x106_2).length) = True := eq_true (by omega)
                             (try rw [show ((0 : Int)).toNat = 0 from rfl] at hx320_0)
                             (try rw [Addr.add_zero'] at hx320_0)
                             replace p320 := eq_true p320
                             replace q320 := eq_true q320
                             obtain ⟨Ao96, co96, eo96⟩ := Kd.R_slice HO_11.out
                             (first | subst eo96 | (injection eo96 with f1_ f2_ f3_; have f4_ := f1_.symm; have f5_ := f3_.symm; clear f1_ f2_ f3_; subst f4_; subst f5_))
                             have p321 : 0 ≤ ((rd (rd_L2 t285 x106_2) 0) : Int) := of_decide_eq_true (by first | (with_reducible assumption) | assumption)
                             have q321 : (rd (rd_L2 t285 x106_2) 0) < (x11_2.length : Int) := of_decide_eq_true (by first | (with_reducible assumption) | assumption)
                             obtain ⟨ad321, e321, hx321_0⟩ := Kd.at_int (Kd.R_reads' HO_11.out).2.2 (rd (rd_L2 t285 x106_2) 0) p321 q321
                             cases e321
                             replace p321 := eq_true p321
                             replace q321 := eq_true q321
                             have p322 : 0 ≤ (x106_2 : Int) := of_decide_eq_true (by first | (with_reducible assumption) | assumption)
                             have q322 : x106_2 < (t292.length : Int) := of_decide_eq_true (by first | (with_reducible assumption) | assumption)
                             obtain ⟨ad322, e322, hx322_0⟩ := Kd.at_int (Kd.R_reads' HO_7.out).2.2 x106_2 p322 q322
                             obtain rfl : ad307 = ad322 := (by injection e322)
                             replace p322 := eq_true p322
                             replace q322 := eq_true q322
                             have p88 : 0 ≤ ((rd (rd_L2 t285 x106_2) 0) : Int) := of_decide_eq_true (by first | (with_reducible assumption) | assumption)
                             have q88 : ((rd (rd_L2 t285 x106_2) 0) : Int) < ((x11_2.length : Int) : Int) := of_decide_eq_true (by first | (with_reducible assumption) | assumption)
                             obtain ⟨go88, co88, eo88, gb88, gl88, cl88, HG88⟩ := Kd.R_form HO_11.out (by omega)
                             (first | cases eo88 | (injection eo88 with ea_ en_ ec_; (first | subst ea_ | (injection ea_ with ea_; subst ea_)); subst ec_; clear en_))
                             have GB88 := Aside0.mk gb88
                             have GG88 := Aside0.mk HG88
                             clear gb88 gl88 HG88
                             (first | simp only [add_plain] at hx321_0 | skip)
                             obtain ⟨hx88_0, hf88_0⟩ := Kd.R_celln 0 HO_11.out ((rd (rd_L2 t285 x106_2) 0) : Int) p88 q88
                             replace p88 := eq_true p88
                             replace q88 := eq_true q88
                             have HP97 := Kd.R_putn HO_11.out ((rd (rd_L2 t285 x106_2) 0) : Int) (wrap64 ((rd x11_2 (rd (rd_L2 t285 x106_2) 0)) + (rd t292 x106_2)))
                             rw [← Ny323.out] at HP97
                             have HQ97 := Aside0.mk HP97
                             clear HP97
                             refine start_ (n := 17) (S := fun w' => w'.cell? ad308 = some (.int .i64 (rd (rd_L2 t285 x106_2) 0)) ∧ w'.cell? ad308 = some (.int .i64 (rd (rd_L2 t285 x106_2) 0)) ∧ w'.cell? ⟨go88, ((rd (rd_L2 t285 x106_2) 0)).toNat, none⟩ = some (.int .i64 (rd x11_2 (rd (rd_L2 t285 x106_2) 0))) ∧ w'.cell? (ad307.add (x106_2).toNat) = some (.int .i64 (rd t292 x106_2))) (ds := [16]) (laws_FnCurrents.qB 17 0) (by kernel_rfl) rfl rfl ⟨hx319_0, hx320_0, hx321_0, hx322_0⟩ (fun hHeld => ?_); refine with_tabW laws_FnCurrents.tab17 laws_FnCurrents.bits17 (fun HT_ HW_ => ?_)
                             generalize w91.drew = w95 at HO_4 HO_6 HO_7 HO_8 HO_11 HL306_0 HR306_0 HB GG88 HQ97 hf88_0 hx319_0 hx320_0 hx321_0 hx322_0 hx88_0 hHeld ⊢
                             refine pure_ (i := 0) (N := some 165) (v := ?_) (a' := ?_) (laws_FnCurrents.qB 17 1) rfl rfl (any_of HT_.out (by kernel_rfl)) (fun _ _ _ h => h) (Or.inl ⟨by rfl, ?_⟩) ?_ ?_
                             rotate_left; (intro w'; go_simp; with_reducible rfl); rotate_left; (simp only [Act.put, List.setIfInBounds_toArray, List.set_cons_zero, List.set_cons_succ, i64_w, i32_w]; rfl)
                             refine pure_ (i := 1) (N := some 166) (v := ?_) (a' := ?_) (laws_FnCurrents.qB 17 3) rfl rfl (any_of HT_.out (by kernel_rfl)) (fun _ _ _ h => h) (Or.inl ⟨by rfl, ?_⟩) ?_ ?_
                             rotate_left; (intro w'; go_simp; with_reducible rfl); rotate_left; (simp only [Act.put, List.setIfInBounds_toArray, List.set_cons_zero, List.set_cons_succ, i64_w, i32_w]; rfl)
                             refine pure_ (i := 2) (N := some 167) (v := ?_) (a' := ?_) (laws_FnCurrents.qB 17 7) rfl rfl (any_of HT_.out (by kernel_rfl)) (fun _ _ _ h => h) (Or.inl ⟨by rfl, ?_⟩) ?_ ?_
                             rotate_left; (intro w'; go_simp; with_reducible rfl); rotate_left; (simp only [Act.put, List.setIfInBounds_toArray, List.set_cons_zero, List.set_cons_succ, i64_w, i32_w]; rfl)
                             refine pure_ (i := 4) (N := some 169) (v := ?_) (a' := ?_) (laws_FnCurrents.qB 17 23) rfl rfl (any_of HT_.out (by kernel_rfl)) (fun _ _ _ h => h) (Or.inl ⟨by rfl, ?_⟩) ?_ ?_
                             rotate_left; (intro w'; go_simp; with_reducible rfl); rotate_left; (simp only [Act.put, List.setIfInBounds_toArray, List.set_cons_zero, List.set_cons_succ, i64_w, i32_w]; rfl)
                             refine pure_ (i := 5) (N := some 170) (v := ?_) (a' := ?_) (laws_FnCurrents.qB 17 55) rfl rfl (any_of HT_.out (by kernel_rfl)) (fun _ _ _ h => h) (Or.inl ⟨by rfl, ?_⟩) ?_ ?_
                             rotate_left; (intro w'; go_simp; with_reducible rfl); rotate_left; (simp only [Act.put, List.setIfInBounds_toArray, List.set_cons_zero, List.set_cons_succ, i64_w, i32_w]; rfl)
                             refine pure_ (i := 6) (N := some 171) (v := ?_) (a' := ?_) (laws_FnCurrents.qB 17 119) rfl rfl (any_of HT_.out (by kernel_rfl)) (fun _ _ _ h => h) (Or.inl ⟨by rfl, ?_⟩) ?_ ?_
                             rotate_left; (intro w'; go_simp; with_reducible rfl); rotate_left; (simp only [Act.put, List.setIfInBounds_toArray, List.set_cons_zero, List.set_cons_succ, i64_w, i32_w]; rfl)
                             refine pure_ (i := 10) (N := some 175) (v := ?_) (a' := ?_) (laws_FnCurrents.qB 17 1143) rfl rfl (any_of HT_.out (by kernel_rfl)) (fun _ _ _ h => h) (Or.inl ⟨by rfl, ?_⟩) ?_ ?_
                             rotate_left; (intro w'; go_simp; with_reducible rfl); rotate_left; (simp only [Act.put, List.setIfInBounds_toArray, List.set_cons_zero, List.set_cons_succ, i64_w, i32_w]; rfl)
                             refine pure_ (i := 11) (N := some 176) (v := ?_) (a' := ?_) (laws_FnCurrents.qB 17 3191) rfl rfl (any_of HT_.out (by kernel_rfl)) (fun _ _ _ h => h) (Or.inl ⟨by rfl, ?_⟩) ?_ ?_
                             rotate_left; (intro w'; go_simp; with_reducible rfl); rotate_left; (simp only [Act.put, List.setIfInBounds_toArray, List.set_cons_zero, List.set_cons_succ, i64_w, i32_w]; rfl)
                             refine pure_ (i := 12) (N := some 177) (v := ?_) (a' := ?_) (laws_FnCurrents.qB 17 7287) rfl rfl (any_of HT_.out (by kernel_rfl)) (fun _ _ _ h => h) (Or.inl ⟨by rfl, ?_⟩) ?_ ?_
                             rotate_left; (intro w'; go_simp; with_reducible rfl); rotate_left; (simp only [Act.put, List.setIfInBounds_toArray, List.set_cons_zero, List.set_cons_succ, i64_w, i32_w]; rfl)
                             refine take_ (i := 3) (N := some 168) (v := ?_) (a' := ?_) (laws_FnCurrents.qB 17 7295) rfl rfl (take_ofW HT_.out HW_.out (by kernel_rfl)) (fun _ _ _ h => h) (Or.inl ⟨by rfl, ?_⟩) hHeld ?_ ?_
                             rotate_left; (rintro w' ⟨s0, s1, s2, s3⟩; go_simp; with_reducible rfl); rotate_left; (simp only [Act.put, List.setIfInBounds_toArray, List.set_cons_zero, List.set_cons_succ, i64_w, i32_w]; rfl)
                             refine take_ (i := 7) (N := some 172) (v := ?_) (a' := ?_) (laws_FnCurrents.qB 17 7423) rfl rfl (take_ofW HT_.out HW_.out (by kernel_rfl)) (fun _ _ _ h => h) (Or.inl ⟨by rfl, ?_⟩) hHeld ?_ ?_
                             rotate_left; (rintro w' ⟨s0, s1, s2, s3⟩; go_simp; with_reducible rfl); rotate_left; (simp only [Act.put, List.setIfInBounds_toArray, List.set_cons_zero, List.set_cons_succ, i64_w, i32_w]; rfl)
                             refine pure_ (i := 8) (N := some 173) (v := ?_) (a' := ?_) (laws_FnCurrents.qB 17 7679) rfl rfl (any_of HT_.out (by kernel_rfl)) (fun _ _ _ h => h) (Or.inl ⟨by rfl, ?_⟩) ?_ ?_
                             rotate_left; (intro w'; go_simp; with_reducible rfl); rotate_left; (simp only [Act.put, List.setIfInBounds_toArray, List.set_cons_zero, List.set_cons_succ, i64_w, i32_w]; rfl)
                             refine take_ (i := 9) (N := some 174) (v := ?_) (a' := ?_) (laws_FnCurrents.qB 17 8191) rfl rfl (take_ofW HT_.out HW_.out (by kernel_rfl)) (fun _ _ _ h => h) (Or.inl ⟨by rfl, ?_⟩) hHeld ?_ ?_
                             rotate_left; (rintro w' ⟨s0, s1, s2, s3⟩; go_simp; with_reducible rfl); rotate_left; (simp only [Act.put, List.setIfInBounds_toArray, List.set_cons_zero, List.set_cons_succ, i64_w, i32_w]; rfl)
                             refine take_ (i := 13) (N := some 178) (v := ?_) (a' := ?_) (laws_FnCurrents.qB 17 16383) rfl rfl (take_ofW HT_.out HW_.out (by kernel_rfl)) (fun _ _ _ h => h) (Or.inl ⟨by rfl, ?_⟩) hHeld ?_ ?_
                             rotate_left; (rintro w' ⟨s0, s1, s2, s3⟩; go_simp; with_reducible rfl); rotate_left; (simp only [Act.put, List.setIfInBounds_toArray, List.set_cons_zero, List.set_cons_succ, i64_w, i32_w]; rfl)
                             refine pure_ (i := 14) (N := some 179) (v := ?_) (a' := ?_) (laws_FnCurrents.qB 17 32767) rfl rfl (any_of HT_.out (by kernel_rfl)) (fun _ _ _ h => h) (Or.inl ⟨by rfl, ?_⟩) ?_ ?_
                             rotate_left; (intro w'; go_simp; with_reducible rfl); rotate_left; (simp only [Act.put, List.setIfInBounds_toArray, List.set_cons_zero, List.set_cons_succ, i64_w, i32_w]; rfl)
                             refine pure_ (i := 15) (N := some 180) (v := ?_) (a' := ?_) (laws_FnCurrents.qB 17 65535) rfl rfl (any_of HT_.out (by kernel_rfl)) (fun _ _ _ h => h) (Or.inl ⟨by rfl, ?_⟩) ?_ ?_
                             rotate_left; (intro w'; go_simp; with_reducible rfl); rotate_left; (simp only [Act.put, List.setIfInBounds_toArray, List.set_cons_zero, List.set_cons_succ, i64_w, i32_w]; rfl)
                             refine last_ (i := 16) (N := none) (laws_FnCurrents.qB 17 131071) rfl rfl (one_of HT_.out (by kernel_rfl)) (by decide) (fun K hK => ?_)
                             refine skip_ (w1 := ?_) (by rfl) rfl ?_ ?_
                             rotate_left
                             ·go_simp
                              rfl
                             refine hK.out _ _ ?_
                             clear hK K
                             refine done_ (done_of HT_.out (by kernel_rfl)) ?_
                             try go_wp2
                             have n0_ : Aside0 (Kd.S (Kd.slice 3 (Kd.int .i64)) 27 (w95.setCell ⟨go88, ((rd (rd_L2 t285 x106_2) 0) : Int).toNat, none⟩ (.int .i64 (wrap64 ((rd x11_2 (rd (rd_L2 t285 x106_2) 0)) + (rd t292 x106_2))))) w.heap.size (fun k_ => some k_ ≠ (.slice (some ad309) t289.length co93 : Value).ownBlock ∧ some k_ ≠ (.slice (some ad307) t292.length co92 : Value).ownBlock ∧ some k_ ≠ (.slice (some ad313) t295.length co94 : Value).ownBlock ∧ some k_ ≠ (.slice (some ⟨go88, 0, none⟩) x11_2.length co96 : Value).ownBlock) (.slice (some ad306) t285.length co11) t285) := ⟨by (with_reducible repeat (first | apply Kd.S_alloc | apply Kd.S_drewN | apply Kd.S_drew)); exact Kd.S_mono (Kd.S_far (p := ⟨go88, ((rd (rd_L2 t285 x106_2) 0) : Int).toNat, none⟩) (Kd.S_mono HO_4.out (fun k_ hk => (⟨hk, fun e_ => hk.2.2.2 (by rw [e_]; rfl)⟩ : _ ∧ k_ ≠ go88))) (fun _ hk => hk.2) (.int .i64 (wrap64 ((rd x11_2 (rd (rd_L2 t285 x106_2) 0)) + (rd t292 x106_2))))) (fun _ hk => ⟨hk.1.1, ⟨hk.1.2.1, ⟨hk.1.2.2.1, hk.1.2.2.2⟩⟩⟩)⟩
                             have n1_ : Aside0 (Kd.R (Kd.int .i64) 3 (w95.setCell ⟨go88, ((rd (rd_L2 t285 x106_2) 0) : Int).toNat, none⟩ (.int .i64 (wrap64 ((rd x11_2 (rd (rd_L2 t285 x106_2) 0)) + (rd t292 x106_2))))) w.heap.size (fun k_ => some k_ ≠ (.slice (some ad307) t292.length co92 : Value).ownBlock ∧ some k_ ≠ (.slice (some ad313) t295.length co94 : Value).ownBlock ∧ some k_ ≠ (.slice (some ⟨go88, 0, none⟩) x11_2.length co96 : Value).ownBlock) (.slice (some ad309) t289.length co93) t289) := ⟨by (with_reducible repeat (first | apply Kd.R_alloc | apply Kd.R_drewN | apply Kd.R_drew)); exact Kd.R_mono (Kd.R_far (p := ⟨go88, ((rd (rd_L2 t285 x106_2) 0) : Int).toNat, none⟩) (Kd.R_mono HO_6.out (fun k_ hk => (⟨hk, fun e_ => hk.2.2 (by rw [e_]; rfl)⟩ : _ ∧ k_ ≠ go88))) (fun _ hk => hk.2) (.int .i64 (wrap64 ((rd x11_2 (rd (rd_L2 t285 x106_2) 0)) + (rd t292 x106_2))))) (fun _ hk => ⟨hk.1.1, ⟨hk.1.2.1, hk.1.2.2⟩⟩)⟩
                             have n2_ : Aside0 (Kd.R (Kd.int .i64) 3 (w95.setCell ⟨go88, ((rd (rd_L2 t285 x106_2) 0) : Int).toNat, none⟩ (.int .i64 (wrap64 ((rd x11_2 (rd (rd_L2 t285 x106_2) 0)) + (rd t292 x106_2))))) w.heap.size (fun k_ => some k_ ≠ (.slice (some ad309) t289.length co93 : Value).ownBlock ∧ some k_ ≠ (.slice (some ad313) t295.length co94 : Value).ownBlock ∧ some k_ ≠ (.slice (some ⟨go88, 0, none⟩) x11_2.length co96 : Value).ownBlock) (.slice (some ad307) t292.length co92) t292) := ⟨by (with_reducible repeat (first | apply Kd.R_alloc | apply Kd.R_drewN | apply Kd.R_drew)); exact Kd.R_mono (Kd.R_far (p := ⟨go88, ((rd (rd_L2 t285 x106_2) 0) : Int).toNat, none⟩) (Kd.R_mono HO_7.out (fun k_ hk => (⟨hk, fun e_ => hk.2.2 (by rw [e_]; rfl)⟩ : _ ∧ k_ ≠ go88))) (fun _ hk => hk.2) (.int .i64 (wrap64 ((rd x11_2 (rd (rd_L2 t285 x106_2) 0)) + (rd t292 x106_2))))) (fun _ hk => ⟨hk.1.1, ⟨hk.1.2.1, hk.1.2.2⟩⟩)⟩
                             have n3_ : Aside0 (Kd.R (Kd.int .i64) 3 (w95.setCell ⟨go88, ((rd (rd_L2 t285 x106_2) 0) : Int).toNat, none⟩ (.int .i64 (wrap64 ((rd x11_2 (rd (rd_L2 t285 x106_2) 0)) + (rd t292 x106_2))))) w.heap.size (fun k_ => some k_ ≠ (.slice (some ad309) t289.length co93 : Value).ownBlock ∧ some k_ ≠ (.slice (some ad307) t292.length co92 : Value).ownBlock ∧ some k_ ≠ (.slice (some ⟨go88, 0, none⟩) x11_2.length co96 : Value).ownBlock) (.slice (some ad313) t295.length co94) t295) := ⟨by (with_reducible repeat (first | apply Kd.R_alloc | apply Kd.R_drewN | apply Kd.R_drew)); exact Kd.R_mono (Kd.R_far (p := ⟨go88, ((rd (rd_L2 t285 x106_2) 0) : Int).toNat, none⟩) (Kd.R_mono HO_8.out (fun k_ hk => (⟨hk, fun e_ => hk.2.2 (by rw [e_]; rfl)⟩ : _ ∧ k_ ≠ go88))) (fun _ hk => hk.2) (.int .i64 (wrap64 ((rd x11_2 (rd (rd_L2 t285 x106_2) 0)) + (rd t292 x106_2))))) (fun _ hk => ⟨hk.1.1, ⟨hk.1.2.1, hk.1.2.2⟩⟩)⟩
                             have n4_ : Aside0 (Kd.R (Kd.int .i64) 3 (w95.setCell ⟨go88, ((rd (rd_L2 t285 x106_2) 0) : Int).toNat, none⟩ (.int .i64 (wrap64 ((rd x11_2 (rd (rd_L2 t285 x106_2) 0)) + (rd t292 x106_2))))) w.heap.size (fun k_ => some k_ ≠ (.slice (some ad309) t289.length co93 : Value).ownBlock ∧ some k_ ≠ (.slice (some ad307) t292.length co92 : Value).ownBlock ∧ some k_ ≠ (.slice (some ad313) t295.length co94 : Value).ownBlock) (.slice (some ⟨go88, 0, none⟩) x11_2.length co96) y323) := ⟨by (with_reducible repeat (first | apply Kd.R_alloc | apply Kd.R_drewN | apply Kd.R_drew)); exact HQ97.out⟩
                             have n5_ : Aside0 (Kd.R (Kd.int .i64) 3 (w95.setCell ⟨go88, ((rd (rd_L2 t285 x106_2) 0) : Int).toNat, none⟩ (.int .i64 (wrap64 ((rd x11_2 (rd (rd_L2 t285 x106_2) 0)) + (rd t292 x106_2))))) w.heap.size (fun k_ => some k_ ≠ (.slice (some ad306) t285.length co11 : Value).ownBlock ∧ some k_ ≠ (.slice (some ad309) t289.length co93 : Value).ownBlock ∧ some k_ ≠ (.slice (some ad307) t292.length co92 : Value).ownBlock ∧ some k_ ≠ (.slice (some ad313) t295.length co94 : Value).ownBlock ∧ some k_ ≠ (.slice (some ⟨go88, 0, none⟩) x11_2.length co96 : Value).ownBlock) (.slice (some ad308) (rd_L2 t285 x106_2).length c306_0) (rd_L2 t285 x106_2)) := ⟨by (with_reducible repeat (first | apply Kd.R_alloc | apply Kd.R_drewN | apply Kd.R_drew)); exact Kd.R_mono (Kd.R_far (p := ⟨go88, ((rd (rd_L2 t285 x106_2) 0) : Int).toNat, none⟩) (Kd.R_mono HL306_0.out (fun k_ hk => (⟨hk, fun e_ => hk.1.2.2.2 (by rw [e_]; rfl)⟩ : _ ∧ k_ ≠ go88))) (fun _ hk => hk.2) (.int .i64 (wrap64 ((rd x11_2 (rd (rd_L2 t285 x106_2) 0)) + (rd t292 x106_2))))) (fun _ hk => ⟨hk.1.2, ⟨hk.1.1.1, ⟨hk.1.1.2.1, ⟨hk.1.1.2.2.1, hk.1.1.2.2.2⟩⟩⟩⟩)⟩
                             have n6_ : Aside0 (Below w.heap.size w (w95.setCell ⟨go88, ((rd (rd_L2 t285 x106_2) 0) : Int).toNat, none⟩ (.int .i64 (wrap64 ((rd x11_2 (rd (rd_L2 t285 x106_2) 0)) + (rd t292 x106_2)))))) := ⟨by repeat (first | (with_reducible first | exact HB.out | apply below_alloc | apply pw_below_drewN | apply below_drew1 | refine below_set ?_ GB88.out) | exact HB.out)⟩
                             (try clear HO_4)
                             (try clear HO_6)
                             (try clear HO_7)
                             (try clear HO_8)
                             (try clear HO_11)
                             (try clear HL306_0)
                             (try clear HB)
                             generalize (w95.setCell ⟨go88, ((rd (rd_L2 t285 x106_2) 0) : Int).toNat, none⟩ (.int .i64 (wrap64 ((rd x11_2 (rd (rd_L2 t285 x106_2) 0)) + (rd t292 x106_2))))) = w98 at n0_ n1_ n2_ n3_ n4_ n5_ n6_ ⊢
                             have HO_4 := n0_
                             have HO_6 := n1_
                             have HO_7 := n2_
                             have HO_8 := n3_
                             have HO_11 := n4_
                             have HL306_0 := n5_
                             have HB := n6_
                             clear n0_ n1_ n2_ n3_ n4_ n5_ n6_
                             have n0_ := Aside0.mk (Kd.S_drew HO_4.out)
                             have n1_ := Aside0.mk (Kd.R_drew HO_6.out)
                             have n2_ := Aside0.mk (Kd.R_drew HO_7.out)
                             have n3_ := Aside0.mk (Kd.R_drew HO_8.out)
                             have n4_ := Aside0.mk (Kd.R_drew HO_11.out)
                             have n5_ := Aside0.mk (Kd.R_drew HL306_0.out)
                             have n6_ := Aside0.mk (below_drew1 HB.out)
                             clear HO_4
                             clear HO_6
                             clear HO_7
                             clear HO_8
                             clear HO_11
                             clear HL306_0
                             clear HB
                             have HO_4 := n0_
                             have HO_6 := n1_
                             have HO_7 := n2_
                             have HO_8 := n3_
                             have HO_11 := n4_
                             have HL306_0 := n5_
                             have HB := n6_
                             clear n0_ n1_ n2_ n3_ n4_ n5_ n6_
                             have p324 : 0 ≤ (1 : Int) := (by omega)
                             have q324 : 1 < ((rd_L2 t285 x106_2).length : Int) := of_decide_eq_true (by first | (with_reducible assumption) | assumption)
                             obtain ⟨ad324, e324, hx324_0⟩ := Kd.at_int (Kd.R_reads' HL306_0.out).2.2 1 p324 q324
                             obtain rfl : ad308 = ad324 := (by injection e324)
                             (try simp only [show (1 : Int).toNat = 1 from rfl, Nat.reduceMul, Nat.reduceEqDiff, Go.Addr.add, ↓reduceIte] at hx324_0)
                             have qi324 : (1 < (rd_L2 t285 x106_2).length) = True := eq_true (by omega)
                             (try rw [show ((1 : Int)).toNat = 1 from rfl] at hx324_0)
                             replace p324 := eq_true p324
                             replace q324 := eq_true q324
                             have p325 : 0 ≤ (1 : Int) := (by omega)
                             have q325 : 1 < ((rd_L2 t285 x106_2).length : Int) := of_decide_eq_true (by first | (with_reducible assumption) | assumption)
                             obtain ⟨ad325, e325, hx325_0⟩ := Kd.at_int (Kd.R_reads' HL306_0.out).2.2 1 p325 q325
                             obtain rfl : ad308 = ad325 := (by injection e325)
                             (try simp only [show (1 : Int).toNat = 1 from rfl, Nat.reduceMul, Nat.reduceEqDiff, Go.Addr.add, ↓reduceIte] at hx325_0)
                             have qi325 : (1 < (rd_L2 t285 x106_2).length) = True := eq_true (by omega)
                             (try rw [show ((1 : Int)).toNat = 1 from rfl] at hx325_0)
                             replace p325 := eq_true p325
                             replace q325 := eq_true q325
                             have p326 : 0 ≤ ((rd (rd_L2 t285 x106_2) 1) : Int) := of_decide_eq_true (by first | (with_reducible assumption) | assumption)
                             have q326 : (rd (rd_L2 t285 x106_2) 1) < (y323.length : Int) := (by have h_ : ((rd (rd_L2 t285 x106_2) 1) : Int) < ((x11_2.length : Int) : Int) := of_decide_eq_true (by first | (with_reducible assumption) | assumption); first | (have e_ := (Kd.R_reads' HO_11.out).1; omega) | simpa only [Ny323.out, List.length_set] using h_)
                             have ql326 : (((rd (rd_L2 t285 x106_2) 1) : Int) < ((x11_2.length : Int) : Int)) = True := eq_true (of_decide_eq_true (by first | (with_reducible assumption) | assumption))
                             obtain ⟨ad326, e326, hx326_0⟩ := Kd.at_int (Kd.R_reads' HO_11.out).2.2 (rd (rd_L2 t285 x106_2) 1) p326 q326
                             obtain rfl : (⟨go88, 0, none⟩ : Addr) = ad326 := (by injection e326)
                             (first | simp only [add_plain] at hx326_0 | simp only [add_at] at hx326_0 | simp only [Addr.add, Nat.zero_add] at hx326_0 | skip)
                             replace p326 := eq_true p326
                             replace q326 := eq_true q326
                             have p327 : 0 ≤ (x106_2 : Int) := of_decide_eq_true (by first | (with_reducible assumption) | assumption)
                             have q327 : x106_2 < (t292.length : Int) := of_decide_eq_true (by first | (with_reducible assumption) | assumption)
                             obtain ⟨ad327, e327, hx327_0⟩ := Kd.at_int (Kd.R_reads' HO_7.out).2.2 x106_2 p327 q327
                             obtain rfl : ad307 = ad327 := (by injection e327)
                             replace p327 := eq_true p327
                             replace q327 := eq_true q327
                             have p90 : 0 ≤ ((rd (rd_L2 t285 x106_2) 1) : Int) := of_decide_eq_true (by first | (with_reducible assumption) | assumption)
                             have q90 : ((rd (rd_L2 t285 x106_2) 1) : Int) < ((x11_2.length : Int) : Int) := of_decide_eq_true (by first | (with_reducible assumption) | assumption)
                             obtain ⟨hx90_0, hf90_0⟩ := Kd.R_celln 0 HO_11.out ((rd (rd_L2 t285 x106_2) 1) : Int) p90 q90
                             replace p90 := eq_true p90
                             replace q90 := eq_true q90
                             have HP100 := Kd.R_putn HO_11.out ((rd (rd_L2 t285 x106_2) 1) : Int) (wrap64 ((rd y323 (rd (rd_L2 t285 x106_2) 1)) - (rd t292 x106_2)))
                             rw [← Ny328.out] at HP100
                             have HQ100 := Aside0.mk HP100
                             clear HP100
                             refine start_ (n := 17) (S := fun w' => w'.cell? ⟨ad308.block, ad308.off + 1, none⟩ = some (.int .i64 (rd (rd_L2 t285 x106_2) 1)) ∧ w'.cell? ⟨ad308.block, ad308.off + 1, none⟩ = some (.int .i64 (rd (rd_L2 t285 x106_2) 1)) ∧ w'.cell? ⟨go88, ((rd (rd_L2 t285 x106_2) 1)).toNat, none⟩ = some (.int .i64 (rd y323 (rd (rd_L2 t285 x106_2) 1))) ∧ w'.cell? (ad307.add (x106_2).toNat) = some (.int .i64 (rd t292 x106_2))) (ds := [16]) (laws_FnCurrents.qB 17 0) (by kernel_rfl) rfl rfl ⟨hx324_0, hx325_0, hx326_0, hx327_0⟩ (fun hHeld => ?_); refine with_tabW laws_FnCurrents.tab18 laws_FnCurrents.bits18 (fun HT_ HW_ => ?_)
                             generalize w98.drew = w99 at HO_4 HO_6 HO_7 HO_8 HO_11 HL306_0 HB HQ100 HQ97 hf90_0 hx324_0 hx325_0 hx326_0 hx327_0 hx90_0 hHeld ⊢
                             refine pure_ (i := 0) (N := some 181) (v := ?_) (a' := ?_) (laws_FnCurrents.qB 17 1) rfl rfl (any_of HT_.out (by kernel_rfl)) (fun _ _ _ h => h) (Or.inl ⟨by rfl, ?_⟩) ?_ ?_
                             rotate_left; (intro w'; go_simp; with_reducible rfl); rotate_left; (simp only [Act.put, List.setIfInBounds_toArray, List.set_cons_zero, List.set_cons_succ, i64_w, i32_w]; rfl)
                             refine pure_ (i := 1) (N := some 182) (v := ?_) (a' := ?_) (laws_FnCurrents.qB 17 3) rfl rfl (any_of HT_.out (by kernel_rfl)) (fun _ _ _ h => h) (Or.inl ⟨by rfl, ?_⟩) ?_ ?_
                             rotate_left; (intro w'; go_simp; with_reducible rfl); rotate_left; (simp only [Act.put, List.setIfInBounds_toArray, List.set_cons_zero, List.set_cons_succ, i64_w, i32_w]; rfl)
                             refine pure_ (i := 2) (N := some 183) (v := ?_) (a' := ?_) (laws_FnCurrents.qB 17 7) rfl rfl (any_of HT_.out (by kernel_rfl)) (fun _ _ _ h => h) (Or.inl ⟨by rfl, ?_⟩) ?_ ?_
                             rotate_left; (intro w'; go_simp; with_reducible rfl); rotate_left; (simp only [Act.put, List.setIfInBounds_toArray, List.set_cons_zero, List.set_cons_succ, i64_w, i32_w]; rfl)
                             refine pure_ (i := 4) (N := some 185) (v := ?_) (a' := ?_) (laws_FnCurrents.qB 17 23) rfl rfl (any_of HT_.out (by kernel_rfl)) (fun _ _ _ h => h) (Or.inl ⟨by rfl, ?_⟩) ?_ ?_
                             rotate_left; (intro w'; go_simp; with_reducible rfl); rotate_left; (simp only [Act.put, List.setIfInBounds_toArray, List.set_cons_zero, List.set_cons_succ, i64_w, i32_w]; rfl)
                             refine pure_ (i := 5) (N := some 186) (v := ?_) (a' := ?_) (laws_FnCurrents.qB 17 55) rfl rfl (any_of HT_.out (by kernel_rfl)) (fun _ _ _ h => h) (Or.inl ⟨by rfl, ?_⟩) ?_ ?_
                             rotate_left; (intro w'; go_simp; with_reducible rfl); rotate_left; (simp only [Act.put, List.setIfInBounds_toArray, List.set_cons_zero, List.set_cons_succ, i64_w, i32_w]; rfl)
                             refine pure_ (i := 6) (N := some 187) (v := ?_) (a' := ?_) (laws_FnCurrents.qB 17 119) rfl rfl (any_of HT_.out (by kernel_rfl)) (fun _ _ _ h => h) (Or.inl ⟨by rfl, ?_⟩) ?_ ?_
                             rotate_left; (intro w'; go_simp; with_reducible rfl); rotate_left; (simp only [Act.put, List.setIfInBounds_toArray, List.set_cons_zero, List.set_cons_succ, i64_w, i32_w]; rfl)
                             refine pure_ (i := 10) (N := some 191) (v := ?_) (a' := ?_) (laws_FnCurrents.qB 17 1143) rfl rfl (any_of HT_.out (by kernel_rfl)) (fun _ _ _ h => h) (Or.inl ⟨by rfl, ?_⟩) ?_ ?_
                             rotate_left; (intro w'; go_simp; with_reducible rfl); rotate_left; (simp only [Act.put, List.setIfInBounds_toArray, List.set_cons_zero, List.set_cons_succ, i64_w, i32_w]; rfl)
                             refine pure_ (i := 11) (N := some 192) (v := ?_) (a' := ?_) (laws_FnCurrents.qB 17 3191) rfl rfl (any_of HT_.out (by kernel_rfl)) (fun _ _ _ h => h) (Or.inl ⟨by rfl, ?_⟩) ?_ ?_
                             rotate_left; (intro w'; go_simp; with_reducible rfl); rotate_left; (simp only [Act.put, List.setIfInBounds_toArray, List.set_cons_zero, List.set_cons_succ, i64_w, i32_w]; rfl)
                             refine pure_ (i := 12) (N := some 193) (v := ?_) (a' := ?_) (laws_FnCurrents.qB 17 7287) rfl rfl (any_of HT_.out (by kernel_rfl)) (fun _ _ _ h => h) (Or.inl ⟨by rfl, ?_⟩) ?_ ?_
                             rotate_left; (intro w'; go_simp; with_reducible rfl); rotate_left; (simp only [Act.put, List.setIfInBounds_toArray, List.set_cons_zero, List.set_cons_succ, i64_w, i32_w]; rfl)
                             refine take_ (i := 3) (N := some 184) (v := ?_) (a' := ?_) (laws_FnCurrents.qB 17 7295) rfl rfl (take_ofW HT_.out HW_.out (by kernel_rfl)) (fun _ _ _ h => h) (Or.inl ⟨by rfl, ?_⟩) hHeld ?_ ?_
                             rotate_left; (rintro w' ⟨s0, s1, s2, s3⟩; go_simp; with_reducible rfl); rotate_left; (simp only [Act.put, List.setIfInBounds_toArray, List.set_cons_zero, List.set_cons_succ, i64_w, i32_w]; rfl)
                             refine take_ (i := 7) (N := some 188) (v := ?_) (a' := ?_) (laws_FnCurrents.qB 17 7423) rfl rfl (take_ofW HT_.out HW_.out (by kernel_rfl)) (fun _ _ _ h => h) (Or.inl ⟨by rfl, ?_⟩) hHeld ?_ ?_
                             rotate_left; (rintro w' ⟨s0, s1, s2, s3⟩; go_simp; with_reducible rfl); rotate_left; (simp only [Act.put, List.setIfInBounds_toArray, List.set_cons_zero, List.set_cons_succ, i64_w, i32_w]; rfl)
                             refine pure_ (i := 8) (N := some 189) (v := ?_) (a' := ?_) (laws_FnCurrents.qB 17 7679) rfl rfl (any_of HT_.out (by kernel_rfl)) (fun _ _ _ h => h) (Or.inl ⟨by rfl, ?_⟩) ?_ ?_
                             rotate_left; (intro w'; go_simp; with_reducible rfl); rotate_left; (simp only [Act.put, List.setIfInBounds_toArray, List.set_cons_zero, List.set_cons_succ, i64_w, i32_w]; rfl)
                             refine take_ (i := 9) (N := some 190) (v := ?_) (a' := ?_) (laws_FnCurrents.qB 17 8191) rfl rfl (take_ofW HT_.out HW_.out (by kernel_rfl)) (fun _ _ _ h => h) (Or.inl ⟨by rfl, ?_⟩) hHeld ?_ ?_
                             rotate_left; (rintro w' ⟨s0, s1, s2, s3⟩; go_simp; with_reducible rfl); rotate_left; (simp only [Act.put, List.setIfInBounds_toArray, List.set_cons_zero, List.set_cons_succ, i64_w, i32_w]; rfl)
                             refine take_ (i := 13) (N := some 194) (v := ?_) (a' := ?_) (laws_FnCurrents.qB 17 16383) rfl rfl (take_ofW HT_.out HW_.out (by kernel_rfl)) (fun _ _ _ h => h) (Or.inl ⟨by rfl, ?_⟩) hHeld ?_ ?_
                             rotate_left; (rintro w' ⟨s0, s1, s2, s3⟩; go_simp; with_reducible rfl); rotate_left; (simp only [Act.put, List.setIfInBounds_toArray, List.set_cons_zero, List.set_cons_succ, i64_w, i32_w]; rfl)
                             refine pure_ (i := 14) (N := some 195) (v := ?_) (a' := ?_) (laws_FnCurrents.qB 17 32767) rfl rfl (any_of HT_.out (by kernel_rfl)) (fun _ _ _ h => h) (Or.inl ⟨by rfl, ?_⟩) ?_ ?_
                             rotate_left; (intro w'; go_simp; with_reducible rfl); rotate_left; (simp only [Act.put, List.setIfInBounds_toArray, List.set_cons_zero, List.set_cons_succ, i64_w, i32_w]; rfl)
                             refine pure_ (i := 15) (N := some 196) (v := ?_) (a' := ?_) (laws_FnCurrents.qB 17 65535) rfl rfl (any_of HT_.out (by kernel_rfl)) (fun _ _ _ h => h) (Or.inl ⟨by rfl, ?_⟩) ?_ ?_
                             rotate_left; (intro w'; go_simp; with_reducible rfl); rotate_left; (simp only [Act.put, List.setIfInBounds_toArray, List.set_cons_zero, List.set_cons_succ, i64_w, i32_w]; rfl)
                             refine last_ (i := 16) (N := none) (laws_FnCurrents.qB 17 131071) rfl rfl (one_of HT_.out (by kernel_rfl)) (by decide) (fun K hK => ?_)
                             refine skip_ (w1 := ?_) (by rfl) rfl ?_ ?_
                             rotate_left
                             ·go_simp
                              rfl
                             refine hK.out _ _ ?_
                             clear hK K
                             refine done_ (done_of HT_.out (by kernel_rfl)) ?_
                             try go_wp2
                             go_roundg k2
                             case measure => have := HJ8.out; have := HK2.out; omega
                             case rel => exact ⟨(y328), (wrap64 (x106_2 + 1)), (by first | rfl | (simp; done) | (simp [*]; done)), H', ⟨by have := HJ8.out; have := HK2.out; omega⟩, ⟨by (with_reducible repeat (first | apply Kd.S_alloc | apply Kd.S_drewN | apply Kd.S_drew)); exact Kd.S_mono (Kd.S_far (p := ⟨go88, ((rd (rd_L2 t285 x106_2) 1) : Int).toNat, none⟩) (Kd.S_mono HO_4.out (fun k_ hk => (⟨hk, fun e_ => hk.2.2.2 (by rw [e_]; rfl)⟩ : _ ∧ k_ ≠ go88))) (fun _ hk => hk.2) (.int .i64 (wrap64 ((rd y323 (rd (rd_L2 t285 x106_2) 1)) - (rd t292 x106_2))))) (fun _ hk => ⟨hk.1.1, ⟨hk.1.2.1, ⟨hk.1.2.2.1, hk.1.2.2.2⟩⟩⟩)⟩, ⟨by (with_reducible repeat (first | apply Kd.R_alloc | apply Kd.R_drewN | apply Kd.R_drew)); exact Kd.R_mono (Kd.R_far (p := ⟨go88, ((rd (rd_L2 t285 x106_2) 1) : Int).toNat, none⟩) (Kd.R_mono HO_6.out (fun k_ hk => (⟨hk, fun e_ => hk.2.2 (by rw [e_]; rfl)⟩ : _ ∧ k_ ≠ go88))) (fun _ hk => hk.2) (.int .i64 (wrap64 ((rd y323 (rd (rd_L2 t285 x106_2) 1)) - (rd t292 x106_2))))) (fun _ hk => ⟨hk.1.1, ⟨hk.1.2.1, hk.1.2.2⟩⟩)⟩, ⟨by (with_reducible repeat (first | apply Kd.R_alloc | apply Kd.R_drewN | apply Kd.R_drew)); exact Kd.R_mono (Kd.R_far (p := ⟨go88, ((rd (rd_L2 t285 x106_2) 1) : Int).toNat, none⟩) (Kd.R_mono HO_7.out (fun k_ hk => (⟨hk, fun e_ => hk.2.2 (by rw [e_]; rfl)⟩ : _ ∧ k_ ≠ go88))) (fun _ hk => hk.2) (.int .i64 (wrap64 ((rd y323 (rd (rd_L2 t285 x106_2) 1)) - (rd t292 x106_2))))) (fun _ hk => ⟨hk.1.1, ⟨hk.1.2.1, hk.1.2.2⟩⟩)⟩, ⟨by (with_reducible repeat (first | apply Kd.R_alloc | apply Kd.R_drewN | apply Kd.R_drew)); exact Kd.R_mono (Kd.R_far (p := ⟨go88, ((rd (rd_L2 t285 x106_2) 1) : Int).toNat, none⟩) (Kd.R_mono HO_8.out (fun k_ hk => (⟨hk, fun e_ => hk.2.2 (by rw [e_]; rfl)⟩ : _ ∧ k_ ≠ go88))) (fun _ hk => hk.2) (.int .i64 (wrap64 ((rd y323 (rd (rd_L2 t285 x106_2) 1)) - (rd t292 x106_2))))) (fun _ hk => ⟨hk.1.1, ⟨hk.1.2.1, hk.1.2.2⟩⟩)⟩, ⟨by (with_reducible repeat (first | apply Kd.R_alloc | apply Kd.R_drewN | apply Kd.R_drew)); exact HQ100.out⟩, ⟨by repeat (first | (with_reducible first | exact HB.out | apply below_alloc | apply pw_below_drewN | apply below_drew1 | refine below_set ?_ GB88.out) | exact HB.out)⟩⟩
                           ·rw [if_neg c89] at H
                            exact absurd H (by simp)
                          ·rw [if_neg c87] at H
                           exact absurd H (by simp)
                       ·rw [if_neg c76] at H
                        exact absurd H (by simp)
                      ·rw [if_neg c75] at H
                       exact (laws_FnCurrents.no_false HT H).elim
                     ·rw [if_neg c74] at H
                      exact absurd H (by simp)
                    ·rw [if_neg c73] at H
                     exact (laws_FnCurrents.no_false HT H).elim
                   ·rw [if_neg c72] at H
                    exact absurd H (by simp)
                  ·rw [if_neg c71] at H
                   exact absurd H (by simp)
                 ·rw [if_neg c70] at H
                  exact absurd H (by simp)
                ·rw [if_neg c69] at H
                 exact absurd H (by simp)
               ·rw [if_neg c68] at H
                exact absurd H (by simp)
              ·rw [if_neg c67] at H
               exact absurd H (by simp)
             ·rw [if_neg c66] at H
              exact absurd H (by simp)
            ·rw [if_neg c65] at H
             exact absurd H (by simp)
           ·rw [if_neg c64] at H
            exact absurd H (by simp)
          ·rw [if_neg c63] at H
           have c63b0 : decide (x106_2 < (t285.length : Int)) = false := decide_eq_false c63
           clear c63
           have H' := Aside0.mk H
           clear H
           obtain ⟨Ao108, co108, eo108⟩ := Kd.R_slice HO_11.out
           subst eo108
           as_aux_lemma =>
            go_wp2
            go_loopg [200] k2 (fun kq v200 w' => ∃ (x200_3 : Int), v200 = .int .i64 x200_3 ∧ Aside0 (laws_FnCurrents.l1 kq l0 t284 t285 t288 t289 t298 t299 x11_2 (x11_2.length : Int) x200_3 = some r) ∧ Aside0 (kq ≤ k2) ∧ Aside0 (Kd.S (Kd.slice 3 (Kd.int .i64)) 27 w' w.heap.size (fun k_ => some k_ ≠ (v290 : Value).ownBlock ∧ some k_ ≠ ((.slice Ao108 x11_2.length co108) : Value).ownBlock) (.slice Ao11 t285.length co11) t285) ∧ Aside0 (Kd.R (Kd.int .i64) 3 w' w.heap.size (fun k_ => some k_ ≠ ((.slice Ao108 x11_2.length co108) : Value).ownBlock) v290 t289) ∧ Aside0 (Kd.R (Kd.int .i64) 3 w' w.heap.size (fun k_ => some k_ ≠ (v290 : Value).ownBlock) (.slice Ao108 x11_2.length co108) x11_2) ∧ Aside0 (Below w.heap.size w w'))
            case atStart => exact ⟨(0), (by first | rfl | (simp; done) | (simp [*]; done)), H', ⟨Nat.le_refl _⟩, ⟨by (with_reducible repeat (first | apply Kd.S_alloc | apply Kd.S_drewN | apply Kd.S_drew)); exact Kd.S_mono HO_4.out (fun _ hk => ⟨hk.1, hk.2.2.2⟩)⟩, ⟨by (with_reducible repeat (first | apply Kd.R_alloc | apply Kd.R_drewN | apply Kd.R_drew)); exact Kd.R_mono HO_6.out (fun _ hk => hk.2.2)⟩, ⟨by (with_reducible repeat (first | apply Kd.R_alloc | apply Kd.R_drewN | apply Kd.R_drew)); exact Kd.R_mono HO_11.out (fun _ hk => hk.1)⟩, ⟨by repeat (first | (with_reducible first | exact HB.out | apply below_alloc | apply pw_below_drewN | apply below_drew1) | exact HB.out)⟩⟩
            case round =>
             clear H'
             (try clear p2); (try clear c3); (try clear p3); (try clear q3); (try clear hx3); (try clear qi3); (try clear c6); (try clear p6); (try clear c7); (try clear c30); (try clear p30); (try clear q30); (try clear hx30); (try clear qi30); (try clear p31); (try clear q31); (try clear hx31); (try clear qi31); (try clear c63); (try clear c63b0); (try clear c64); (try clear p64); (try clear c65); (try clear c66); (try clear c67); (try clear c68); (try clear c69); (try clear c70); (try clear c71); (try clear c72); (try clear c73); (try clear c73b0); (try clear c73b1); (try clear c74); (try clear hx306_0); (try clear hx307_0); (try clear hx308_0); (try clear hx309_0); (try clear hx310_0); (try clear hx311_0); (try clear p306); (try clear p307); (try clear p308); (try clear p309); (try clear p310); (try clear p311); (try clear q306); (try clear q307); (try clear q308); (try clear q309); (try clear q310); (try clear q311)
             obtain ⟨x200_3, rfl, HA, HK3, HO_4, HO_6, HO_11, HB⟩ := hrel
             cases gk with
             | zero => exact absurd HA.out (by simp [laws_FnCurrents.l1])
             | succ k3 =>
              have H := HA.out
              clear HA
              simp only [laws_FnCurrents.l1] at H
              by_cases c109 : x200_3 < (x11_2.length : Int)
              ·rw [if_pos c109] at H
               have c109b0 : decide (x200_3 < (x11_2.length : Int)) = true := decide_eq_true c109
               clear c109
               by_cases c110 : 0 ≤ x200_3
               ·rw [if_pos c110] at H
                have c110b0 : decide (0 ≤ x200_3) = true := decide_eq_true c110
                clear c110
                by_cases c111 : x200_3 < (x11_2.length : Int)
                ·rw [if_pos c111] at H
                 have c111b0 : decide (x200_3 < (x11_2.length : Int)) = true := decide_eq_true c111
                 clear c111
                 by_cases c112 : x200_3 = 0
                 ·rw [if_pos c112] at H
                  have c112b0 : (x200_3 == 0) = true := beq_iff_eq.mpr c112
                  have c112b1 : (x200_3 != 0) = false := bne_eq_false_iff_eq.mpr c112
                  clear c112
                  by_cases c113 : (rd x11_2 x200_3) = t288
                  ·rw [if_pos c113] at H
                   have c113b0 : ((rd x11_2 x200_3) == t288) = true := beq_iff_eq.mpr c113
                   have c113b1 : ((rd x11_2 x200_3) != t288) = false := bne_eq_false_iff_eq.mpr c113
                   clear c113
                   have H' := Aside0.mk H
                   clear H
                   have p329 : 0 ≤ (x200_3 : Int) := of_decide_eq_true (by first | (with_reducible assumption) | assumption)
                   have q329 : x200_3 < (x11_2.length : Int) := of_decide_eq_true (by first | (with_reducible assumption) | assumption)
                   obtain ⟨ad329, e329, hx329_0⟩ := Kd.at_int (Kd.R_reads' HO_11.out).2.2 x200_3 p329 q329
                   cases e329
                   replace p329 := eq_true p329
                   replace q329 := eq_true q329
                   as_aux_lemma =>
                    go_wp2
                    go_roundg k3
                    case measure => have := HJ8.out; have := HK2.out; have := HK3.out; omega
                    case rel => exact ⟨(wrap64 (x200_3 + 1)), (by first | rfl | (simp; done) | (simp [*]; done)), H', ⟨by have := HJ8.out; have := HK2.out; have := HK3.out; omega⟩, ⟨by (with_reducible repeat (first | apply Kd.S_alloc | apply Kd.S_drewN | apply Kd.S_drew)); exact HO_4.out⟩, ⟨by (with_reducible repeat (first | apply Kd.R_alloc | apply Kd.R_drewN | apply Kd.R_drew)); exact HO_6.out⟩, ⟨by (with_reducible repeat (first | apply Kd.R_alloc | apply Kd.R_drewN | apply Kd.R_drew)); exact HO_11.out⟩, ⟨by repeat (first | (with_reducible first | exact HB.out | apply below_alloc | apply pw_below_drewN | apply below_drew1) | exact HB.out)⟩⟩
                  ·rw [if_neg c113] at H
                   exact (laws_FnCurrents.no_false HT H).elim
                 ·rw [if_neg c112] at H
                  have c112b0 : (x200_3 == 0) = false := beq_eq_false_iff_ne.mpr c112
                  have c112b1 : (x200_3 != 0) = true := bne_iff_ne.mpr c112
                  by_cases c114 : x200_3 = (wrap64 (t284 - 1))
                  ·rw [if_pos c114] at H
                   have c114b0 : (x200_3 == (wrap64 (t284 - 1))) = true := beq_iff_eq.mpr c114
                   have c114b1 : (x200_3 != (wrap64 (t284 - 1))) = false := bne_eq_false_iff_eq.mpr c114
                   clear c114
                   by_cases c115 : (rd x11_2 x200_3) = (wrap64 (-t288))
                   ·rw [if_pos c115] at H
                    have c115b0 : ((rd x11_2 x200_3) == (wrap64 (-t288))) = true := beq_iff_eq.mpr c115
                    have c115b1 : ((rd x11_2 x200_3) != (wrap64 (-t288))) = false := bne_eq_false_iff_eq.mpr c115
                    clear c115
                    have H' := Aside0.mk H
                    clear H
                    have p329 : 0 ≤ (x200_3 : Int) := of_decide_eq_true (by first | (with_reducible assumption) | assumption)
                    have q329 : x200_3 < (x11_2.length : Int) := of_decide_eq_true (by first | (with_reducible assumption) | assumption)
                    obtain ⟨ad329, e329, hx329_0⟩ := Kd.at_int (Kd.R_reads' HO_11.out).2.2 x200_3 p329 q329
                    cases e329
                    replace p329 := eq_true p329
                    replace q329 := eq_true q329
                    as_aux_lemma =>
                     go_wp2
                     go_roundg k3
                     case measure => have := HJ8.out; have := HK2.out; have := HK3.out; omega
                     case rel => exact ⟨(wrap64 (x200_3 + 1)), (by first | rfl | (simp; done) | (simp [*]; done)), H', ⟨by have := HJ8.out; have := HK2.out; have := HK3.out; omega⟩, ⟨by (with_reducible repeat (first | apply Kd.S_alloc | apply Kd.S_drewN | apply Kd.S_drew)); exact HO_4.out⟩, ⟨by (with_reducible repeat (first | apply Kd.R_alloc | apply Kd.R_drewN | apply Kd.R_drew)); exact HO_6.out⟩, ⟨by (with_reducible repeat (first | apply Kd.R_alloc | apply Kd.R_drewN | apply Kd.R_drew)); exact HO_11.out⟩, ⟨by repeat (first | (with_reducible first | exact HB.out | apply below_alloc | apply pw_below_drewN | apply below_drew1) | exact HB.out)⟩⟩
                   ·rw [if_neg c115] at H
                    exact (laws_FnCurrents.no_false HT H).elim
                  ·rw [if_neg c114] at H
                   have c114b0 : (x200_3 == (wrap64 (t284 - 1))) = false := beq_eq_false_iff_ne.mpr c114
                   have c114b1 : (x200_3 != (wrap64 (t284 - 1))) = true := bne_iff_ne.mpr c114
                   by_cases c116 : (rd x11_2 x200_3) = 0
                   ·rw [if_pos c116] at H
                    have c116b0 : ((rd x11_2 x200_3) == 0) = true := beq_iff_eq.mpr c116
                    have c116b1 : ((rd x11_2 x200_3) != 0) = false := bne_eq_false_iff_eq.mpr c116
                    clear c116
                    have H' := Aside0.mk H
                    clear H
                    have p329 : 0 ≤ (x200_3 : Int) := of_decide_eq_true (by first | (with_reducible assumption) | assumption)
                    have q329 : x200_3 < (x11_2.length : Int) := of_decide_eq_true (by first | (with_reducible assumption) | assumption)
                    obtain ⟨ad329, e329, hx329_0⟩ := Kd.at_int (Kd.R_reads' HO_11.out).2.2 x200_3 p329 q329
                    cases e329
                    replace p329 := eq_true p329
                    replace q329 := eq_true q329
                    as_aux_lemma =>
                     go_wp2
                     go_roundg k3
                     case measure => have := HJ8.out; have := HK2.out; have := HK3.out; omega
                     case rel => exact ⟨(wrap64 (x200_3 + 1)), (by first | rfl | (simp; done) | (simp [*]; done)), H', ⟨by have := HJ8.out; have := HK2.out; have := HK3.out; omega⟩, ⟨by (with_reducible repeat (first | apply Kd.S_alloc | apply Kd.S_drewN | apply Kd.S_drew)); exact HO_4.out⟩, ⟨by (with_reducible repeat (first | apply Kd.R_alloc | apply Kd.R_drewN | apply Kd.R_drew)); exact HO_6.out⟩, ⟨by (with_reducible repeat (first | apply Kd.R_alloc | apply Kd.R_drewN | apply Kd.R_drew)); exact HO_11.out⟩, ⟨by repeat (first | (with_reducible first | exact HB.out | apply below_alloc | apply pw_below_drewN | apply below_drew1) | exact HB.out)⟩⟩
                   ·rw [if_neg c116] at H
                    exact (laws_FnCurrents.no_false HT H).elim
                ·rw [if_neg c111] at H
                 exact absurd H (by simp)
               ·rw [if_neg c110] at H
                exact absurd H (by simp)
              ·rw [if_neg c109] at H
               have c109b0 : decide (x200_3 < (x11_2.length : Int)) = false := decide_eq_false c109
               clear c109
               replace H := Option.bind_eq_some_iff.mp H
               obtain ⟨t330, A1170, H⟩ := H
               replace H : ((impl_WireOf.f k3 t284 t285 t330 true).bind fun bt331 => ((impl_WireOf.f k3 t284 t285 t330 false).bind fun bt335 => (if bt335.2 = true then (laws_FnCurrents.j3 k3 t284 t288 t289 t298 t299 bt331.1 bt331.2 bt335.1 ((bt335.1.length : Int) != (wrap64 ((t285.length : Int) + 1)))) else (laws_FnCurrents.j3 k3 t284 t288 t289 t298 t299 bt331.1 bt331.2 bt335.1 true)))) = some r := H
               have A117 := Aside0.mk A1170
               clear A1170
               replace H := Option.bind_eq_some_iff.mp H
               obtain ⟨⟨t331, t332⟩, A1180, H⟩ := H
               replace H : ((impl_WireOf.f k3 t284 t285 t330 false).bind fun bt335 => (if bt335.2 = true then (laws_FnCurrents.j3 k3 t284 t288 t289 t298 t299 t331 t332 bt335.1 ((bt335.1.length : Int) != (wrap64 ((t285.length : Int) + 1)))) else (laws_FnCurrents.j3 k3 t284 t288 t289 t298 t299 t331 t332 bt335.1 true))) = some r := H
               have A118 := Aside0.mk A1180
               clear A1180
               replace H := Option.bind_eq_some_iff.mp H
               obtain ⟨⟨t335, t336⟩, A1190, H⟩ := H
               replace H : (if t336 = true then (laws_FnCurrents.j3 k3 t284 t288 t289 t298 t299 t331 t332 t335 ((t335.length : Int) != (wrap64 ((t285.length : Int) + 1)))) else (laws_FnCurrents.j3 k3 t284 t288 t289 t298 t299 t331 t332 t335 true)) = some r := H
               have A119 := Aside0.mk A1190
               clear A1190
               have HC120 := Aside0.mk H
               clear H
               go_upto_region 35 with (first | ((with_reducible refine gate_callee (f := 14) rfl ?_); refine goesL_ (some 223) rfl rfl Try.func14 (by kernel_rfl) rfl #[.slice A0 l0.length c0, .int .i64 40, .int .i64 0, .int .i64 (wrap64 ((t285.length : Int) - 1))] rfl (by (try simp only [List.map_toArray, List.map_cons, List.map_nil]); first | done | rfl | (simp only [List.length_drop, List.length_take]; rfl)) ?_; (with_reducible refine (spec_MakeSize.calls k3 _ _ l0 40 0 (wrap64 ((t285.length : Int) - 1)) t330 _ ?side1 ?side2 A117.out).mono ?_); (case side1 => repeat (first | exact (Kd.C_below HR0.out HB.out) | (with_reducible refine Kd.C_alloc ?_ _) | (with_reducible refine Kd.C_drewN ?_ _) | (with_reducible refine Kd.C_drew ?_))); (case side2 => exact HC0.out); rintro e w121 ⟨rfl, hb⟩; refine ⟨_, rfl, ?_⟩; have n0_ := Aside0.mk (Kd.S_below (by (with_reducible repeat (first | apply Kd.S_alloc | apply Kd.S_drewN | apply Kd.S_drew)); exact HO_4.out) hb); have n1_ := Aside0.mk (Kd.R_below (by (with_reducible repeat (first | apply Kd.R_alloc | apply Kd.R_drewN | apply Kd.R_drew)); exact HO_6.out) hb); have n2_ := Aside0.mk (Kd.R_below (by (with_reducible repeat (first | apply Kd.R_alloc | apply Kd.R_drewN | apply Kd.R_drew)); exact HO_11.out) hb); have n3_ := Aside0.mk (below_step (by repeat (first | (with_reducible first | exact HB.out | apply below_alloc | apply pw_below_drewN | apply below_drew1) | exact HB.out)) hb); clear HO_4; clear HO_6; clear HO_11; clear HB; have HO_4 := n0_; have HO_6 := n1_; have HO_11 := n2_; have HB := n3_; clear n0_ n1_ n2_ n3_; (try clear hb); (try clear hb2); (try clear hk); (try clear hi)) | ((with_reducible refine gate_callee (f := 15) rfl ?_); refine goesL_ (some 228) rfl rfl Try.func15 (by kernel_rfl) rfl #[.int .i64 t284, .slice Ao11 t285.length co11, .int .i64 t330, .bool true] rfl (by (try simp only [List.map_toArray, List.map_cons, List.map_nil]); first | done | rfl | (simp only [List.length_drop, List.length_take]; rfl)) ?_; (with_reducible refine (impl_WireOf.calls k3 t284 _ _ t285 t330 true t331 t332 _ ?side1 ?side2 A118.out).mono ?_); (case side1 => repeat (first | exact (Kd.S_reads' HO_4.out).2.2 | (with_reducible refine Kd.C_alloc ?_ _) | (with_reducible refine Kd.C_drewN ?_ _) | (with_reducible refine Kd.C_drew ?_))); (case side2 => exact (Kd.S_reads' HO_4.out).2.1); rintro e w122 ⟨v333, rfl, ho0, hb⟩; refine ⟨_, rfl, ?_⟩; have n0_ := Aside0.mk (Kd.S_elder' (by (with_reducible repeat (first | apply Kd.S_alloc | apply Kd.S_drewN | apply Kd.S_drew)); exact HO_4.out) (Kd.S_base ho0) hb); have n1_ := Aside0.mk (Kd.R_below (by (with_reducible repeat (first | apply Kd.R_alloc | apply Kd.R_drewN | apply Kd.R_drew)); exact HO_6.out) hb); have n2_ := Aside0.mk (Kd.R_below (by (with_reducible repeat (first | apply Kd.R_alloc | apply Kd.R_drewN | apply Kd.R_drew)); exact HO_11.out) hb); have n3_ := Aside0.mk (Kd.S_lower (Kd.S_new' (Kd.S_new' (Kd.S_new' ho0 (Kd.S_lt (by (with_reducible repeat (first | apply Kd.S_alloc | apply Kd.S_drewN | apply Kd.S_drew)); exact HO_4.out))) (Kd.R_lt (by (with_reducible repeat (first | apply Kd.R_alloc | apply Kd.R_drewN | apply Kd.R_drew)); exact HO_6.out))) (Kd.R_lt (by (with_reducible repeat (first | apply Kd.R_alloc | apply Kd.R_drewN | apply Kd.R_drew)); exact HO_11.out))) (below_size (by repeat (first | (with_reducible first | exact HB.out | apply below_alloc | apply pw_below_drewN | apply below_drew1) | exact HB.out)))); have n4_ := Aside0.mk (below_step (by repeat (first | (with_reducible first | exact HB.out | apply below_alloc | apply pw_below_drewN | apply below_drew1) | exact HB.out)) hb); clear HO_4; clear HO_6; clear HO_11; clear HB; have HO_4 := n0_; have HO_6 := n1_; have HO_11 := n2_; have HO334 := n3_; have HB := n4_; clear n0_ n1_ n2_ n3_ n4_; (try clear hb); (try clear hb2); (try clear hk); (try clear hi); (try clear ho0)) | ((with_reducible refine gate_callee (f := 15) rfl ?_); refine goesL_ (some 235) rfl rfl Try.func15 (by kernel_rfl) rfl #[.int .i64 t284, .slice Ao11 t285.length co11, .int .i64 t330, .bool false] rfl (by (try simp only [List.map_toArray, List.map_cons, List.map_nil]); first | done | rfl | (simp only [List.length_drop, List.length_take]; rfl)) ?_; (with_reducible refine (impl_WireOf.calls k3 t284 _ _ t285 t330 false t335 t336 _ ?side1 ?side2 A119.out).mono ?_); (case side1 => repeat (first | exact (Kd.S_reads' HO_4.out).2.2 | (with_reducible refine Kd.C_alloc ?_ _) | (with_reducible refine Kd.C_drewN ?_ _) | (with_reducible refine Kd.C_drew ?_))); (case side2 => exact (Kd.S_reads' HO_4.out).2.1); rintro e w123 ⟨v337, rfl, ho0, hb⟩; refine ⟨_, rfl, ?_⟩; have n0_ := Aside0.mk (Kd.S_elder' (by (with_reducible repeat (first | apply Kd.S_alloc | apply Kd.S_drewN | apply Kd.S_drew)); exact HO_4.out) (Kd.S_base ho0) hb); have n1_ := Aside0.mk (Kd.R_below (by (with_reducible repeat (first | apply Kd.R_alloc | apply Kd.R_drewN | apply Kd.R_drew)); exact HO_6.out) hb); have n2_ := Aside0.mk (Kd.R_below (by (with_reducible repeat (first | apply Kd.R_alloc | apply Kd.R_drewN | apply Kd.R_drew)); exact HO_11.out) hb); have n3_ := Aside0.mk (Kd.S_elder' (by (with_reducible repeat (first | apply Kd.S_alloc | apply Kd.S_drewN | apply Kd.S_drew)); exact HO334.out) (Kd.S_base ho0) hb); have n4_ := Aside0.mk (Kd.S_lower (Kd.S_new' (Kd.S_new' (Kd.S_new' (Kd.S_new' ho0 (Kd.S_lt (by (with_reducible repeat (first | apply Kd.S_alloc | apply Kd.S_drewN | apply Kd.S_drew)); exact HO_4.out))) (Kd.R_lt (by (with_reducible repeat (first | apply Kd.R_alloc | apply Kd.R_drewN | apply Kd.R_drew)); exact HO_6.out))) (Kd.R_lt (by (with_reducible repeat (first | apply Kd.R_alloc | apply Kd.R_drewN | apply Kd.R_drew)); exact HO_11.out))) (Kd.S_lt (by (with_reducible repeat (first | apply Kd.S_alloc | apply Kd.S_drewN | apply Kd.S_drew)); exact HO334.out))) (below_size (by repeat (first | (with_reducible first | exact HB.out | apply below_alloc | apply pw_below_drewN | apply below_drew1) | exact HB.out)))); have n5_ := Aside0.mk (below_step (by repeat (first | (with_reducible first | exact HB.out | apply below_alloc | apply pw_below_drewN | apply below_drew1) | exact HB.out)) hb); clear HO_4; clear HO_6; clear HO_11; clear HO334; clear HB; have HO_4 := n0_; have HO_6 := n1_; have HO_11 := n2_; have HO334 := n3_; have HO338 := n4_; have HB := n5_; clear n0_ n1_ n2_ n3_ n4_ n5_; (try clear hb); (try clear hb2); (try clear hk); (try clear hi); (try clear ho0)))
               (try simp only [Act.put, List.setIfInBounds_toArray, List.set_cons_zero, List.set_cons_succ])
               go_cut [247] (fun v247 wc => ∃ (kq : Nat) (x247_119 : Bool), v247 = .bool x247_119 ∧ Aside0 (laws_FnCurrents.j3 kq t284 t288 t289 t298 t299 t331 t332 t335 x247_119 = some r) ∧ Aside0 (kq ≤ k3) ∧ Aside0 (Kd.R (Kd.int .i64) 3 wc w.heap.size (fun _ => True) v290 t289) ∧ Aside0 (Kd.S (Kd.slice 3 (Kd.int .i64)) 27 wc w.heap.size (fun k_ => some k_ ≠ (v290 : Value).ownBlock ∧ some k_ ≠ (v337 : Value).ownBlock) v333 t331) ∧ Aside0 (Kd.S (Kd.slice 3 (Kd.int .i64)) 27 wc w.heap.size (fun k_ => some k_ ≠ (v290 : Value).ownBlock ∧ some k_ ≠ (v333 : Value).ownBlock) v337 t335) ∧ Aside0 (Below w.heap.size w wc))
               case first =>
                as_aux_lemma =>
                 have H := HC120.out
                 clear HC120
                 by_cases c124 : t336 = true
                 ·subst c124
                  have H1 : (laws_FnCurrents.j3 k3 t284 t288 t289 t298 t299 t331 t332 t335 ((t335.length : Int) != (wrap64 ((t285.length : Int) + 1)))) = some r := by rw [if_pos rfl] at H; exact H
                  clear H
                  have H := H1
                  clear H1
                  have H' := Aside0.mk H
                  clear H
                  obtain ⟨Ao125, co125, eo125⟩ := Kd.S_slice HO338.out
                  subst eo125
                  as_aux_lemma =>
                   go_wp2
                   go_meet
                   case rel => exact ⟨_, (((t335.length : Int) != (wrap64 ((t285.length : Int) + 1)))), (by first | rfl | (simp; done) | (simp [*]; done)), H', ⟨by have := HJ8.out; have := HK2.out; have := HK3.out; first | omega | exact Nat.le_refl _⟩, ⟨by (with_reducible repeat (first | apply Kd.R_alloc | apply Kd.R_drewN | apply Kd.R_drew)); exact Kd.R_mono HO_6.out (fun _ hk => trivial)⟩, ⟨by (with_reducible repeat (first | apply Kd.S_alloc | apply Kd.S_drewN | apply Kd.S_drew)); exact Kd.S_mono HO334.out (fun _ hk => ⟨hk.1.1.2, hk.2⟩)⟩, ⟨by (with_reducible repeat (first | apply Kd.S_alloc | apply Kd.S_drewN | apply Kd.S_drew)); exact Kd.S_mono HO338.out (fun _ hk => ⟨hk.1.1.2, hk.2⟩)⟩, ⟨by repeat (first | (with_reducible first | exact HB.out | apply below_alloc | apply pw_below_drewN | apply below_drew1) | exact HB.out)⟩⟩
                 ·replace c124 := Bool.eq_false_iff.mpr c124
                  subst c124
                  have H1 : (laws_FnCurrents.j3 k3 t284 t288 t289 t298 t299 t331 t332 t335 true) = some r := by rw [if_neg (show ¬ (false = true) by decide)] at H; exact H
                  exact (laws_FnCurrents.j3_dead HT H1).elim
               case rest =>
                as_aux_lemma =>
                 clear HC120
                 (try clear c1); (try clear p2); (try clear c3); (try clear p3); (try clear q3); (try clear hx3); (try clear qi3); (try clear c6); (try clear p6); (try clear c7); (try clear c10); (try clear c11); (try clear c12); (try clear c14); (try clear c15); (try clear c30); (try clear p30); (try clear q30); (try clear hx30); (try clear qi30); (try clear p31); (try clear q31); (try clear hx31); (try clear qi31); (try clear p32); (try clear q32); (try clear hx32); (try clear c63); (try clear c63b0); (try clear c64); (try clear p64); (try clear c65); (try clear c66); (try clear c67); (try clear c68); (try clear c69); (try clear c70); (try clear c71); (try clear c72); (try clear c73); (try clear c73b0); (try clear c73b1); (try clear c74); (try clear c109); (try clear c109b0); (try clear c110); (try clear c110b0); (try clear c111); (try clear c111b0); (try clear c112); (try clear c112b0); (try clear c112b1); (try clear c113); (try clear c113b0); (try clear c113b1); (try clear c114); (try clear c114b0); (try clear c114b1); (try clear c115); (try clear c115b0); (try clear c115b1); (try clear c116); (try clear c116b0); (try clear c116b1); (try clear c124); (try clear hx306_0); (try clear hx307_0); (try clear hx308_0); (try clear hx309_0); (try clear hx310_0); (try clear hx311_0); (try clear hx329_0); (try clear p2); (try clear p3); (try clear p30); (try clear p306); (try clear p307); (try clear p308); (try clear p309); (try clear p31); (try clear p310); (try clear p311); (try clear p329); (try clear p6); (try clear p64); (try clear q3); (try clear q30); (try clear q306); (try clear q307); (try clear q308); (try clear q309); (try clear q31); (try clear q310); (try clear q311); (try clear q329)
                 obtain ⟨kq, x247_119, rfl, HA, HJ119, HO_6, HO_18, HO_20, HB⟩ := hcut
                 cases kq with
                 | zero => exact absurd HA.out (by simp [laws_FnCurrents.j3])
                 | succ kj119 =>
                  have H := HA.out
                  clear HA
                  simp only [laws_FnCurrents.j3] at H
                  by_cases c126 : x247_119 = true
                  ·subst c126
                   have H1 : (some false) = some r := by rw [if_pos rfl] at H; exact H
                   exact (laws_FnCurrents.no_false HT H1).elim
                  ·replace c126 := Bool.eq_false_iff.mpr c126
                   subst c126
                   have H1 : (if t332 = true then ((impl_CountTrees.f kj119 t284 t331).bind fun t339 => ((impl_CountTrees.f kj119 t284 t335).bind fun t340 => (if t340 = (wrap64 ((wrap64 (2 * t288)) - t339)) then (if 0 < (t289.length : Int) then (some ((wrap64 ((rd t289 0) * t298)) == (wrap64 (t299 * t288)))) else (none)) else (some false)))) else ((impl_CountTrees.f kj119 t284 t335).bind fun t342 => (if t342 = (wrap64 ((wrap64 (2 * t288)) - 0)) then (if 0 < (t289.length : Int) then (some ((wrap64 ((rd t289 0) * t298)) == (wrap64 (t299 * t288)))) else (none)) else (some false)))) = some r := by rw [if_neg (show ¬ (false = true) by decide)] at H; exact H
                   clear H
                   have H := H1
                   clear H1
                   by_cases c127 : t332 = true
                   ·subst c127
                    have H1 : ((impl_CountTrees.f kj119 t284 t331).bind fun t339 => ((impl_CountTrees.f kj119 t284 t335).bind fun t340 => (if t340 = (wrap64 ((wrap64 (2 * t288)) - t339)) then (if 0 < (t289.length : Int) then (some ((wrap64 ((rd t289 0) * t298)) == (wrap64 (t299 * t288)))) else (none)) else (some false)))) = some r := by rw [if_pos rfl] at H; exact H
                    clear H
                    have H := H1
                    clear H1
                    replace H := Option.bind_eq_some_iff.mp H
                    obtain ⟨t339, A1280, H⟩ := H
                    replace H : ((impl_CountTrees.f kj119 t284 t335).bind fun t340 => (if t340 = (wrap64 ((wrap64 (2 * t288)) - t339)) then (if 0 < (t289.length : Int) then (some ((wrap64 ((rd t289 0) * t298)) == (wrap64 (t299 * t288)))) else (none)) else (some false))) = some r := H
                    have A128 := Aside0.mk A1280
                    clear A1280
                    replace H := Option.bind_eq_some_iff.mp H
                    obtain ⟨t340, A1290, H⟩ := H
                    replace H : (if t340 = (wrap64 ((wrap64 (2 * t288)) - t339)) then (if 0 < (t289.length : Int) then (some ((wrap64 ((rd t289 0) * t298)) == (wrap64 (t299 * t288)))) else (none)) else (some false)) = some r := H
                    have A129 := Aside0.mk A1290
                    clear A1290
                    by_cases c130 : t340 = (wrap64 ((wrap64 (2 * t288)) - t339))
                    ·rw [if_pos c130] at H
                     have c130b0 : (t340 == (wrap64 ((wrap64 (2 * t288)) - t339))) = true := beq_iff_eq.mpr c130
                     have c130b1 : (t340 != (wrap64 ((wrap64 (2 * t288)) - t339))) = false := bne_eq_false_iff_eq.mpr c130
                     clear c130
                     by_cases c131 : 0 < (t289.length : Int)
                     ·rw [if_pos c131] at H
                      have c131b0 : decide (0 < (t289.length : Int)) = true := decide_eq_true c131
                      have c131b1 : decide (0 < t289.length) = true := decide_eq_true (by omega)
                      clear c131
                      obtain rfl := Option.some.inj H
                      obtain ⟨Ao132, co132, eo132⟩ := Kd.S_slice HO_18.out
                      subst eo132
                      as_aux_lemma =>
                       go_wp2_with (first | ((with_reducible refine gate_callee (f := 7) rfl ?_); refine goesL_ (some 251) rfl rfl Try.func7 (by kernel_rfl) rfl #[.int .i64 t284, .slice Ao132 t331.length co132] rfl (by (try simp only [List.map_toArray, List.map_cons, List.map_nil]); first | done | rfl | (simp only [List.length_drop, List.length_take]; rfl)) ?_; (with_reducible refine (impl_CountTrees.calls kj119 t284 _ _ t331 t339 _ ?side1 ?side2 A128.out).mono ?_); (case side1 => repeat (first | exact (Kd.S_reads' HO_18.out).2.2 | (with_reducible refine Kd.C_alloc ?_ _) | (with_reducible refine Kd.C_drewN ?_ _) | (with_reducible refine Kd.C_drew ?_))); (case side2 => exact (Kd.S_reads' HO_18.out).2.1); rintro e w133 ⟨rfl, hb⟩; refine ⟨_, rfl, ?_⟩; have n0_ := Aside0.mk (Kd.R_below (by (with_reducible repeat (first | apply Kd.R_alloc | apply Kd.R_drewN | apply Kd.R_drew)); exact HO_6.out) hb); have n1_ := Aside0.mk (Kd.S_below (by (with_reducible repeat (first | apply Kd.S_alloc | apply Kd.S_drewN | apply Kd.S_drew)); exact HO_18.out) hb); have n2_ := Aside0.mk (Kd.S_below (by (with_reducible repeat (first | apply Kd.S_alloc | apply Kd.S_drewN | apply Kd.S_drew)); exact HO_20.out) hb); have n3_ := Aside0.mk (below_step (by repeat (first | (with_reducible first | exact HB.out | apply below_alloc | apply pw_below_drewN | apply below_drew1) | exact HB.out)) hb); clear HO_6; clear HO_18; clear HO_20; clear HB; have HO_6 := n0_; have HO_18 := n1_; have HO_20 := n2_; have HB := n3_; clear n0_ n1_ n2_ n3_; (try clear hb); (try clear hb2); (try clear hk); (try clear hi); obtain ⟨Ao134, co134, eo134⟩ := Kd.S_slice HO_20.out; subst eo134) | ((with_reducible refine gate_callee (f := 7) rfl ?_); refine goesL_ (some 254) rfl rfl Try.func7 (by kernel_rfl) rfl #[.int .i64 t284, .slice Ao134 t335.length co134] rfl (by (try simp only [List.map_toArray, List.map_cons, List.map_nil]); first | done | rfl | (simp only [List.length_drop, List.length_take]; rfl)) ?_; (with_reducible refine (impl_CountTrees.calls kj119 t284 _ _ t335 t340 _ ?side1 ?side2 A129.out).mono ?_); (case side1 => repeat (first | exact (Kd.S_reads' HO_20.out).2.2 | (with_reducible refine Kd.C_alloc ?_ _) | (with_reducible refine Kd.C_drewN ?_ _) | (with_reducible refine Kd.C_drew ?_))); (case side2 => exact (Kd.S_reads' HO_20.out).2.1); rintro e w135 ⟨rfl, hb⟩; refine ⟨_, rfl, ?_⟩; have n0_ := Aside0.mk (Kd.R_below (by (with_reducible repeat (first | apply Kd.R_alloc | apply Kd.R_drewN | apply Kd.R_drew)); exact HO_6.out) hb); have n1_ := Aside0.mk (Kd.S_below (by (with_reducible repeat (first | apply Kd.S_alloc | apply Kd.S_drewN | apply Kd.S_drew)); exact HO_18.out) hb); have n2_ := Aside0.mk (Kd.S_below (by (with_reducible repeat (first | apply Kd.S_alloc | apply Kd.S_drewN | apply Kd.S_drew)); exact HO_20.out) hb); have n3_ := Aside0.mk (below_step (by repeat (first | (with_reducible first | exact HB.out | apply below_alloc | apply pw_below_drewN | apply below_drew1) | exact HB.out)) hb); clear HO_6; clear HO_18; clear HO_20; clear HB; have HO_6 := n0_; have HO_18 := n1_; have HO_20 := n2_; have HB := n3_; clear n0_ n1_ n2_ n3_; (try clear hb); (try clear hb2); (try clear hk); (try clear hi); obtain ⟨Ao136, co136, eo136⟩ := Kd.R_slice HO_6.out; subst eo136; have p341 : 0 ≤ (0 : Int) := (by omega); have q341 : 0 < (t289.length : Int) := of_decide_eq_true (by first | (with_reducible assumption) | assumption); obtain ⟨ad341, e341, hx341_0⟩ := Kd.at_int (Kd.R_reads' HO_6.out).2.2 0 p341 q341; cases e341; have qi341 : (0 < t289.length) = True := eq_true (by omega); (try rw [show ((0 : Int)).toNat = 0 from rfl] at hx341_0); (try rw [Addr.add_zero'] at hx341_0); replace p341 := eq_true p341; replace q341 := eq_true q341))
                       go_ret
                       exact ⟨by first | rfl | (simp [errW_none, errW_some] <;> rfl) | (simp [*, errW_none, errW_some] <;> rfl), by repeat (first | (with_reducible first | exact HB.out | apply below_alloc | apply pw_below_drewN | apply below_drew1) | exact HB.out)⟩
                     ·rw [if_neg c131] at H
                      exact absurd H (by simp)
                    ·rw [if_neg c130] at H
                     exact (laws_FnCurrents.no_false HT H).elim
                   ·replace c127 := Bool.eq_false_iff.mpr c127
                    subst c127
                    have H1 : ((impl_CountTrees.f kj119 t284 t335).bind fun t342 => (if t342 = (wrap64 ((wrap64 (2 * t288)) - 0)) then (if 0 < (t289.length : Int) then (some ((wrap64 ((rd t289 0) * t298)) == (wrap64 (t299 * t288)))) else (none)) else (some false))) = some r := by rw [if_neg (show ¬ (false = true) by decide)] at H; exact H
                    clear H
                    have H := H1
                    clear H1
                    replace H := Option.bind_eq_some_iff.mp H
                    obtain ⟨t342, A1410, H⟩ := H
                    replace H : (if t342 = (wrap64 ((wrap64 (2 * t288)) - 0)) then (if 0 < (t289.length : Int) then (some ((wrap64 ((rd t289 0) * t298)) == (wrap64 (t299 * t288)))) else (none)) else (some false)) = some r := H
                    have A141 := Aside0.mk A1410
                    clear A1410
                    by_cases c142 : t342 = (wrap64 ((wrap64 (2 * t288)) - 0))
                    ·rw [if_pos c142] at H
                     have c142b0 : (t342 == (wrap64 ((wrap64 (2 * t288)) - 0))) = true := beq_iff_eq.mpr c142
                     have c142b2 : (t342 == wrap64 (wrap64 (2 * t288))) = true := by
                      have z_ := c142b0
                      rw [Int.sub_zero] at z_
                      exact z_
                     have c142b3 : (t342 == wrap64 (2 * t288)) = true := by
                      rw [show wrap64 (2 * t288) = wrap64 (wrap64 (2 * t288)) from by unfold wrap64; omega]
                      exact c142b2
                     have c142b4 : decide (t342 = wrap64 (2 * t288)) = true := decide_eq_true (beq_iff_eq.mp c142b3)
                     have c142b1 : (t342 != (wrap64 ((wrap64 (2 * t288)) - 0))) = false := bne_eq_false_iff_eq.mpr c142
                     clear c142
                     by_cases c143 : 0 < (t289.length : Int)
                     ·rw [if_pos c143] at H
                      have c143b0 : decide (0 < (t289.length : Int)) = true := decide_eq_true c143
                      have c143b1 : decide (0 < t289.length) = true := decide_eq_true (by omega)
                      clear c143
                      obtain rfl := Option.some.inj H
                      obtain ⟨Ao144, co144, eo144⟩ := Kd.S_slice HO_20.out
                      subst eo144
                      as_aux_lemma =>
                       go_wp2_with (first | ((with_reducible refine gate_callee (f := 7) rfl ?_); refine goesL_ (some 254) rfl rfl Try.func7 (by kernel_rfl) rfl #[.int .i64 t284, .slice Ao144 t335.length co144] rfl (by (try simp only [List.map_toArray, List.map_cons, List.map_nil]); first | done | rfl | (simp only [List.length_drop, List.length_take]; rfl)) ?_; (with_reducible refine (impl_CountTrees.calls kj119 t284 _ _ t335 t342 _ ?side1 ?side2 A141.out).mono ?_); (case side1 => repeat (first | exact (Kd.S_reads' HO_20.out).2.2 | (with_reducible refine Kd.C_alloc ?_ _) | (with_reducible refine Kd.C_drewN ?_ _) | (with_reducible refine Kd.C_drew ?_))); (case side2 => exact (Kd.S_reads' HO_20.out).2.1); rintro e w145 ⟨rfl, hb⟩; refine ⟨_, rfl, ?_⟩; have n0_ := Aside0.mk (Kd.R_below (by (with_reducible repeat (first | apply Kd.R_alloc | apply Kd.R_drewN | apply Kd.R_drew)); exact HO_6.out) hb); have n1_ := Aside0.mk (Kd.S_below (by (with_reducible repeat (first | apply Kd.S_alloc | apply Kd.S_drewN | apply Kd.S_drew)); exact HO_18.out) hb); have n2_ := Aside0.mk (Kd.S_below (by (with_reducible repeat (first | apply Kd.S_alloc | apply Kd.S_drewN | apply Kd.S_drew)); exact HO_20.out) hb); have n3_ := Aside0.mk (below_step (by repeat (first | (with_reducible first | exact HB.out | apply below_alloc | apply pw_below_drewN | apply below_drew1) | exact HB.out)) hb); clear HO_6; clear HO_18; clear HO_20; clear HB; have HO_6 := n0_; have HO_18 := n1_; have HO_20 := n2_; have HB := n3_; clear n0_ n1_ n2_ n3_; (try clear hb); (try clear hb2); (try clear hk); (try clear hi); obtain ⟨Ao146, co146, eo146⟩ := Kd.R_slice HO_6.out; subst eo146; have p343 : 0 ≤ (0 : Int) := (by omega); have q343 : 0 < (t289.length : Int) := of_decide_eq_true (by first | (with_reducible assumption) | assumption); obtain ⟨ad343, e343, hx343_0⟩ := Kd.at_int (Kd.R_reads' HO_6.out).2.2 0 p343 q343; cases e343; have qi343 : (0 < t289.length) = True := eq_true (by omega); (try rw [show ((0 : Int)).toNat = 0 from rfl] at hx343_0); (try rw [Addr.add_zero'] at hx343_0); replace p343 := eq_true p343; replace q343 := eq_true q343))
                       go_ret
                       exact ⟨by first | rfl | (simp [errW_none, errW_some] <;> rfl) | (simp [*, errW_none, errW_some] <;> rfl), by repeat (first | (with_reducible first | exact HB.out | apply below_alloc | apply pw_below_drewN | apply below_drew1) | exact HB.out)⟩
                     ·rw [if_neg c143] at H
                      exact absurd H (by simp)
                    ·rw [if_neg c142] at H
                     exact (laws_FnCurrents.no_false HT H).elim
      ·rw [if_neg c60] at H
       exact absurd H (by simp)
     ·rw [if_neg c59] at H
      exact absurd H (by simp)

/-- THE ONE PLAIN STATEMENT of laws_FnCurrents. -/
def laws_FnCurrents.Pure : Prop := ∀ (l0 : List Int), l0.length ≤ maxLen → l0.length * 1 ≤ 140737488351232 → (∀ x ∈ l0, (Lit.int .u8 x).wf = true) → ∃ k, laws_FnCurrents.f k l0 = some true
theorem laws_FnCurrents.walk (P : laws_FnCurrents.Pure) (A0 : Option Addr) (c0 : Nat) (l0 : List Int) (w : World) (hr0 : Kd.C (Kd.int .u8) w A0 l0.length l0) (hc0 : l0.length ≤ c0) (hm0 : l0.length ≤ maxLen) (y0 : l0.length * 1 ≤ 140737488351232) (hw0 : (∀ x ∈ l0, (Lit.int .u8 x).wf = true)) :
  Calls Try.prog 3 #[.slice A0 l0.length c0] w fun e w' => e = .returned (.bool true) ∧ Below w.heap.size w w' := by
 obtain ⟨k, h⟩ := P l0 hm0 y0 hw0
 refine (laws_FnCurrents.calls k _ _ l0 true w hr0 hc0 h rfl).mono ?_
 rintro e w' ⟨rfl, hd⟩
 exact ⟨rfl, hd⟩

end Go.Proofs.Ytadloeklhjoohaa.XFnCurrents
