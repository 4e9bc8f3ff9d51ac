/- What functions of the program compute, as plain Lean functions, and that Go's calls come to just that: written by wip/tools/xprint.py for the law FnExactPlanValue. -/
import Derived.Test.YthjiccclpalobaaDoorXFnExactPlanValuex0
import Derived.Test.YthjiccclpalobaaDoorXFnExactPlanValuex3
import Derived.Test.YthjiccclpalobaaDoorXFnExactPlanValuex5
namespace Go.Proofs.YthjiccclpalobaaDoor.XFnExactPlanValue
open Go.RowKit Go.Proofs.YthjiccclpalobaaDoorW.PrintWords Go.Proofs.YthjiccclpalobaaDoorW.PrintLast Go.Proofs.YthjiccclpalobaaDoorW.PrintMore
attribute [local go_sem] max2_int min2_int max_two min_two max_three min_three max_four min_four   -- for this text's walks alone
set_option linter.unusedVariables false
set_option linter.unusedSimpArgs false

/-! ### spec_l16Read: function 38 -/
mutual
def spec_l16Read.j0 : Nat → Int → Int → List (List Int) → ByteArray → Int → Int → Bool → Option (Int × Int)
  | 0, _, _, _, _, _, _, _ => none
  | k + 1, x0, x1, x2, x3, x4, x12, x40 => if x40 = true then (if ((x12 - 97) % 256) ≥ (x2.length : Int) then (some ((-1), x4)) else (if 0 ≤ ((x12 - 97) % 256) then (if ((x12 - 97) % 256) < (x2.length : Int) then (if 0 < ((rd_L1 x2 ((x12 - 97) % 256)).length : Int) then (if (rd (rd_L1 x2 ((x12 - 97) % 256)) 0) = x0 then (if 1 < ((rd_L1 x2 ((x12 - 97) % 256)).length : Int) then (if (rd (rd_L1 x2 ((x12 - 97) % 256)) 1) = x1 then (if 2 < ((rd_L1 x2 ((x12 - 97) % 256)).length : Int) then (some (rd (rd_L1 x2 ((x12 - 97) % 256)) 2, wrap64 (x4 + 1))) else (none)) else (some ((-1), x4))) else (none)) else (some ((-1), x4))) else (none)) else (none)) else (none))) else (if x12 = 118 then (spec_l16Read.j1 k x0 x1 x2 x3 x4 x12 false) else (spec_l16Read.j1 k x0 x1 x2 x3 x4 x12 (x12 != 104)))
def spec_l16Read.j1 : Nat → Int → Int → List (List Int) → ByteArray → Int → Int → Bool → Option (Int × Int)
  | 0, _, _, _, _, _, _, _ => none
  | k + 1, x0, x1, x2, x3, x4, x12, x82 => if x82 = true then (some ((-1), x4)) else (spec_l16Read.l0 k x0 x1 x2 x3 x4 x12 (wrap64 (x4 + 1)))
def spec_l16Read.j3 : Nat → Int → Int → List (List Int) → ByteArray → Int → Int → Int → Option (Int × Int)
  | 0, _, _, _, _, _, _, _ => none
  | k + 1, x0, x1, x2, x3, x4, x12, x14 => if 0 ≤ (wrap64 (x4 + 1)) then (if (wrap64 (x4 + 1)) ≤ x14 then (if x14 ≤ (x3.size : Int) then ((spec_ParseInt.f k (x3.extract ((wrap64 (x4 + 1)) : Int).toNat (x14 : Int).toNat)).bind fun bt162 => (if bt162.2 = true then (if x14 ≥ (x3.size : Int) then (spec_l16Read.j4 k x0 x1 x2 x3 x4 x12 x14 bt162.1 true) else (if 0 ≤ x14 then (if x14 < (x3.size : Int) then (spec_l16Read.j4 k x0 x1 x2 x3 x4 x12 x14 bt162.1 ((bt x3 x14) != 40)) else (none)) else (none))) else (spec_l16Read.j4 k x0 x1 x2 x3 x4 x12 x14 bt162.1 true))) else (none)) else (none)) else (none)
def spec_l16Read.j4 : Nat → Int → Int → List (List Int) → ByteArray → Int → Int → Int → Int → Bool → Option (Int × Int)
  | 0, _, _, _, _, _, _, _, _, _ => none
  | k + 1, x0, x1, x2, x3, x4, x12, x14, x15, x132 => if x132 = true then (some ((-1), x4)) else (if x12 = 104 then (spec_l16Read.j5 k x0 x1 x2 x3 x4 x12 x14 x15 x1) else (spec_l16Read.j5 k x0 x1 x2 x3 x4 x12 x14 x15 x0))
def spec_l16Read.j5 : Nat → Int → Int → List (List Int) → ByteArray → Int → Int → Int → Int → Int → Option (Int × Int)
  | 0, _, _, _, _, _, _, _, _, _ => none
  | k + 1, x0, x1, x2, x3, x4, x12, x14, x15, x17 => (spec_l01In.f x15 1 (wrap64 (x17 - 1))).bind fun t164 => (if t164 = true then (if x12 = 118 then ((spec_l16Read.f k x15 x1 x2 x3 (wrap64 (x14 + 1))).bind fun bt165 => (spec_l16Read.j6 k x0 x1 x2 x3 x4 x12 (wrap64 (x17 - x15)) bt165.1 bt165.2)) else ((spec_l16Read.f k x0 x15 x2 x3 (wrap64 (x14 + 1))).bind fun bt167 => (spec_l16Read.j6 k x0 x1 x2 x3 x4 x12 (wrap64 (x17 - x15)) bt167.1 bt167.2))) else (some ((-1), x4)))
def spec_l16Read.j6 : Nat → Int → Int → List (List Int) → ByteArray → Int → Int → Int → Int → Int → Option (Int × Int)
  | 0, _, _, _, _, _, _, _, _, _ => none
  | k + 1, x0, x1, x2, x3, x4, x12, x19, x20, x22 => if x20 < 0 then (some ((-1), x4)) else (if x12 = 118 then ((spec_l16Read.f k x19 x1 x2 x3 x22).bind fun bt169 => (if bt169.1 < 0 then (some ((-1), x4)) else (if bt169.2 ≥ (x3.size : Int) then (some ((-1), x4)) else (if 0 ≤ bt169.2 then (if bt169.2 < (x3.size : Int) then (if (bt x3 bt169.2) = 41 then (some (wrap64 (x20 + bt169.1), wrap64 (bt169.2 + 1))) else (some ((-1), x4))) else (none)) else (none))))) else ((spec_l16Read.f k x0 x19 x2 x3 x22).bind fun bt171 => (if bt171.1 < 0 then (some ((-1), x4)) else (if bt171.2 ≥ (x3.size : Int) then (some ((-1), x4)) else (if 0 ≤ bt171.2 then (if bt171.2 < (x3.size : Int) then (if (bt x3 bt171.2) = 41 then (some (wrap64 (x20 + bt171.1), wrap64 (bt171.2 + 1))) else (some ((-1), x4))) else (none)) else (none))))))
def spec_l16Read.l0 : Nat → Int → Int → List (List Int) → ByteArray → Int → Int → Int → Option (Int × Int)
  | 0, _, _, _, _, _, _, _ => none
  | k + 1, x0, x1, x2, x3, x4, x12, x14 => if x14 < (x3.size : Int) then (if x14 < (wrap64 (x4 + 4)) then (if 0 ≤ x14 then (if (bt x3 x14) ≥ 48 then (if (bt x3 x14) ≤ 57 then (spec_l16Read.l0 k x0 x1 x2 x3 x4 x12 (wrap64 (x14 + 1))) else (spec_l16Read.j3 k x0 x1 x2 x3 x4 x12 x14)) else (spec_l16Read.j3 k x0 x1 x2 x3 x4 x12 x14)) else (none)) else (spec_l16Read.j3 k x0 x1 x2 x3 x4 x12 x14)) else (spec_l16Read.j3 k x0 x1 x2 x3 x4 x12 x14)
def spec_l16Read.f : Nat → Int → Int → List (List Int) → ByteArray → Int → Option (Int × Int)
  | 0, _, _, _, _, _ => none
  | k + 1, a0, a1, l2, a3, a4 => if a4 ≥ (a3.size : Int) then (some ((-1), a4)) else (if 0 ≤ a4 then (if a4 < (a3.size : Int) then (if (bt a3 a4) = 46 then (some (0, wrap64 (a4 + 1))) else (if (bt a3 a4) ≥ 97 then (spec_l16Read.j0 k a0 a1 l2 a3 a4 (bt a3 a4) (decide ((bt a3 a4) ≤ 102))) else (spec_l16Read.j0 k a0 a1 l2 a3 a4 (bt a3 a4) false))) else (none)) else (none))
end
theorem spec_l16Read.mono_l : ∀ k, (∀ y0 y1 y2 y3 y4, LeO (spec_l16Read.f k y0 y1 y2 y3 y4) (spec_l16Read.f (k + 1) y0 y1 y2 y3 y4)) ∧ (∀ y0 y1 y2 y3 y4 y5 y6, LeO (spec_l16Read.j0 k y0 y1 y2 y3 y4 y5 y6) (spec_l16Read.j0 (k + 1) y0 y1 y2 y3 y4 y5 y6)) ∧ (∀ y0 y1 y2 y3 y4 y5 y6, LeO (spec_l16Read.j1 k y0 y1 y2 y3 y4 y5 y6) (spec_l16Read.j1 (k + 1) y0 y1 y2 y3 y4 y5 y6)) ∧ (∀ y0 y1 y2 y3 y4 y5 y6, LeO (spec_l16Read.j3 k y0 y1 y2 y3 y4 y5 y6) (spec_l16Read.j3 (k + 1) y0 y1 y2 y3 y4 y5 y6)) ∧ (∀ y0 y1 y2 y3 y4 y5 y6 y7 y8, LeO (spec_l16Read.j4 k y0 y1 y2 y3 y4 y5 y6 y7 y8) (spec_l16Read.j4 (k + 1) y0 y1 y2 y3 y4 y5 y6 y7 y8)) ∧ (∀ y0 y1 y2 y3 y4 y5 y6 y7 y8, LeO (spec_l16Read.j5 k y0 y1 y2 y3 y4 y5 y6 y7 y8) (spec_l16Read.j5 (k + 1) y0 y1 y2 y3 y4 y5 y6 y7 y8)) ∧ (∀ y0 y1 y2 y3 y4 y5 y6 y7 y8, LeO (spec_l16Read.j6 k y0 y1 y2 y3 y4 y5 y6 y7 y8) (spec_l16Read.j6 (k + 1) y0 y1 y2 y3 y4 y5 y6 y7 y8)) ∧ (∀ y0 y1 y2 y3 y4 y5 y6, LeO (spec_l16Read.l0 k y0 y1 y2 y3 y4 y5 y6) (spec_l16Read.l0 (k + 1) y0 y1 y2 y3 y4 y5 y6))
  | 0 => ⟨fun _ _ _ _ _ r h => by simp [spec_l16Read.f] at h, fun _ _ _ _ _ _ _ r h => by simp [spec_l16Read.j0] at h, fun _ _ _ _ _ _ _ r h => by simp [spec_l16Read.j1] at h, fun _ _ _ _ _ _ _ r h => by simp [spec_l16Read.j3] at h, fun _ _ _ _ _ _ _ _ _ r h => by simp [spec_l16Read.j4] at h, fun _ _ _ _ _ _ _ _ _ r h => by simp [spec_l16Read.j5] at h, fun _ _ _ _ _ _ _ _ _ r h => by simp [spec_l16Read.j6] at h, fun _ _ _ _ _ _ _ r h => by simp [spec_l16Read.l0] at h⟩
  | k + 1 => by
    obtain ⟨ih0, ih1, ih2, ih3, ih4, ih5, ih6, ih7⟩ := spec_l16Read.mono_l k
    refine ⟨?_, ?_, ?_, ?_, ?_, ?_, ?_, ?_⟩
    · intro y0 y1 y2 y3 y4
      unfold spec_l16Read.f
      repeat' first
      | (with_reducible exact ih0 _ _ _ _ _)
      | (with_reducible exact ih1 _ _ _ _ _ _ _)
      | (with_reducible exact ih2 _ _ _ _ _ _ _)
      | (with_reducible exact ih3 _ _ _ _ _ _ _)
      | (with_reducible exact ih4 _ _ _ _ _ _ _ _ _)
      | (with_reducible exact ih5 _ _ _ _ _ _ _ _ _)
      | (with_reducible exact ih6 _ _ _ _ _ _ _ _ _)
      | (with_reducible exact ih7 _ _ _ _ _ _ _)
      | (with_reducible exact spec_ParseInt.mono _ _)
      | (with_reducible exact LeO.refl _)
      | (with_reducible exact LeO.none _)
      | (with_reducible refine LeO.ite ?_ ?_)
      | (with_reducible refine LeO.bind ?_ (fun _ => ?_))
      | exact ih0 _ _ _ _ _
      | exact ih1 _ _ _ _ _ _ _
      | exact ih2 _ _ _ _ _ _ _
      | exact ih3 _ _ _ _ _ _ _
      | exact ih4 _ _ _ _ _ _ _ _ _
      | exact ih5 _ _ _ _ _ _ _ _ _
      | exact ih6 _ _ _ _ _ _ _ _ _
      | exact ih7 _ _ _ _ _ _ _
      | exact spec_ParseInt.mono _ _
      | exact LeO.none _
      | refine LeO.ite ?_ ?_
      | refine LeO.bind ?_ (fun _ => ?_)
    · intro y0 y1 y2 y3 y4 y5 y6
      unfold spec_l16Read.j0
      repeat' first
      | (with_reducible exact ih0 _ _ _ _ _)
      | (with_reducible exact ih1 _ _ _ _ _ _ _)
      | (with_reducible exact ih2 _ _ _ _ _ _ _)
      | (with_reducible exact ih3 _ _ _ _ _ _ _)
      | (with_reducible exact ih4 _ _ _ _ _ _ _ _ _)
      | (with_reducible exact ih5 _ _ _ _ _ _ _ _ _)
      | (with_reducible exact ih6 _ _ _ _ _ _ _ _ _)
      | (with_reducible exact ih7 _ _ _ _ _ _ _)
      | (with_reducible exact spec_ParseInt.mono _ _)
      | (with_reducible exact LeO.refl _)
      | (with_reducible exact LeO.none _)
      | (with_reducible refine LeO.ite ?_ ?_)
      | (with_reducible refine LeO.bind ?_ (fun _ => ?_))
      | exact ih0 _ _ _ _ _
      | exact ih1 _ _ _ _ _ _ _
      | exact ih2 _ _ _ _ _ _ _
      | exact ih3 _ _ _ _ _ _ _
      | exact ih4 _ _ _ _ _ _ _ _ _
      | exact ih5 _ _ _ _ _ _ _ _ _
      | exact ih6 _ _ _ _ _ _ _ _ _
      | exact ih7 _ _ _ _ _ _ _
      | exact spec_ParseInt.mono _ _
      | exact LeO.none _
      | refine LeO.ite ?_ ?_
      | refine LeO.bind ?_ (fun _ => ?_)
    · intro y0 y1 y2 y3 y4 y5 y6
      unfold spec_l16Read.j1
      repeat' first
      | (with_reducible exact ih0 _ _ _ _ _)
      | (with_reducible exact ih1 _ _ _ _ _ _ _)
      | (with_reducible exact ih2 _ _ _ _ _ _ _)
      | (with_reducible exact ih3 _ _ _ _ _ _ _)
      | (with_reducible exact ih4 _ _ _ _ _ _ _ _ _)
      | (with_reducible exact ih5 _ _ _ _ _ _ _ _ _)
      | (with_reducible exact ih6 _ _ _ _ _ _ _ _ _)
      | (with_reducible exact ih7 _ _ _ _ _ _ _)
      | (with_reducible exact spec_ParseInt.mono _ _)
      | (with_reducible exact LeO.refl _)
      | (with_reducible exact LeO.none _)
      | (with_reducible refine LeO.ite ?_ ?_)
      | (with_reducible refine LeO.bind ?_ (fun _ => ?_))
      | exact ih0 _ _ _ _ _
      | exact ih1 _ _ _ _ _ _ _
      | exact ih2 _ _ _ _ _ _ _
      | exact ih3 _ _ _ _ _ _ _
      | exact ih4 _ _ _ _ _ _ _ _ _
      | exact ih5 _ _ _ _ _ _ _ _ _
      | exact ih6 _ _ _ _ _ _ _ _ _
      | exact ih7 _ _ _ _ _ _ _
      | exact spec_ParseInt.mono _ _
      | exact LeO.none _
      | refine LeO.ite ?_ ?_
      | refine LeO.bind ?_ (fun _ => ?_)
    · intro y0 y1 y2 y3 y4 y5 y6
      unfold spec_l16Read.j3
      repeat' first
      | (with_reducible exact ih0 _ _ _ _ _)
      | (with_reducible exact ih1 _ _ _ _ _ _ _)
      | (with_reducible exact ih2 _ _ _ _ _ _ _)
      | (with_reducible exact ih3 _ _ _ _ _ _ _)
      | (with_reducible exact ih4 _ _ _ _ _ _ _ _ _)
      | (with_reducible exact ih5 _ _ _ _ _ _ _ _ _)
      | (with_reducible exact ih6 _ _ _ _ _ _ _ _ _)
      | (with_reducible exact ih7 _ _ _ _ _ _ _)
      | (with_reducible exact spec_ParseInt.mono _ _)
      | (with_reducible exact LeO.refl _)
      | (with_reducible exact LeO.none _)
      | (with_reducible refine LeO.ite ?_ ?_)
      | (with_reducible refine LeO.bind ?_ (fun _ => ?_))
      | exact ih0 _ _ _ _ _
      | exact ih1 _ _ _ _ _ _ _
      | exact ih2 _ _ _ _ _ _ _
      | exact ih3 _ _ _ _ _ _ _
      | exact ih4 _ _ _ _ _ _ _ _ _
      | exact ih5 _ _ _ _ _ _ _ _ _
      | exact ih6 _ _ _ _ _ _ _ _ _
      | exact ih7 _ _ _ _ _ _ _
      | exact spec_ParseInt.mono _ _
      | exact LeO.none _
      | refine LeO.ite ?_ ?_
      | refine LeO.bind ?_ (fun _ => ?_)
    · intro y0 y1 y2 y3 y4 y5 y6 y7 y8
      unfold spec_l16Read.j4
      repeat' first
      | (with_reducible exact ih0 _ _ _ _ _)
      | (with_reducible exact ih1 _ _ _ _ _ _ _)
      | (with_reducible exact ih2 _ _ _ _ _ _ _)
      | (with_reducible exact ih3 _ _ _ _ _ _ _)
      | (with_reducible exact ih4 _ _ _ _ _ _ _ _ _)
      | (with_reducible exact ih5 _ _ _ _ _ _ _ _ _)
      | (with_reducible exact ih6 _ _ _ _ _ _ _ _ _)
      | (with_reducible exact ih7 _ _ _ _ _ _ _)
      | (with_reducible exact spec_ParseInt.mono _ _)
      | (with_reducible exact LeO.refl _)
      | (with_reducible exact LeO.none _)
      | (with_reducible refine LeO.ite ?_ ?_)
      | (with_reducible refine LeO.bind ?_ (fun _ => ?_))
      | exact ih0 _ _ _ _ _
      | exact ih1 _ _ _ _ _ _ _
      | exact ih2 _ _ _ _ _ _ _
      | exact ih3 _ _ _ _ _ _ _
      | exact ih4 _ _ _ _ _ _ _ _ _
      | exact ih5 _ _ _ _ _ _ _ _ _
      | exact ih6 _ _ _ _ _ _ _ _ _
      | exact ih7 _ _ _ _ _ _ _
      | exact spec_ParseInt.mono _ _
      | exact LeO.none _
      | refine LeO.ite ?_ ?_
      | refine LeO.bind ?_ (fun _ => ?_)
    · intro y0 y1 y2 y3 y4 y5 y6 y7 y8
      unfold spec_l16Read.j5
      repeat' first
      | (with_reducible exact ih0 _ _ _ _ _)
      | (with_reducible exact ih1 _ _ _ _ _ _ _)
      | (with_reducible exact ih2 _ _ _ _ _ _ _)
      | (with_reducible exact ih3 _ _ _ _ _ _ _)
      | (with_reducible exact ih4 _ _ _ _ _ _ _ _ _)
      | (with_reducible exact ih5 _ _ _ _ _ _ _ _ _)
      | (with_reducible exact ih6 _ _ _ _ _ _ _ _ _)
      | (with_reducible exact ih7 _ _ _ _ _ _ _)
      | (with_reducible exact spec_ParseInt.mono _ _)
      | (with_reducible exact LeO.refl _)
      | (with_reducible exact LeO.none _)
      | (with_reducible refine LeO.ite ?_ ?_)
      | (with_reducible refine LeO.bind ?_ (fun _ => ?_))
      | exact ih0 _ _ _ _ _
      | exact ih1 _ _ _ _ _ _ _
      | exact ih2 _ _ _ _ _ _ _
      | exact ih3 _ _ _ _ _ _ _
      | exact ih4 _ _ _ _ _ _ _ _ _
      | exact ih5 _ _ _ _ _ _ _ _ _
      | exact ih6 _ _ _ _ _ _ _ _ _
      | exact ih7 _ _ _ _ _ _ _
      | exact spec_ParseInt.mono _ _
      | exact LeO.none _
      | refine LeO.ite ?_ ?_
      | refine LeO.bind ?_ (fun _ => ?_)
    · intro y0 y1 y2 y3 y4 y5 y6 y7 y8
      unfold spec_l16Read.j6
      repeat' first
      | (with_reducible exact ih0 _ _ _ _ _)
      | (with_reducible exact ih1 _ _ _ _ _ _ _)
      | (with_reducible exact ih2 _ _ _ _ _ _ _)
      | (with_reducible exact ih3 _ _ _ _ _ _ _)
      | (with_reducible exact ih4 _ _ _ _ _ _ _ _ _)
      | (with_reducible exact ih5 _ _ _ _ _ _ _ _ _)
      | (with_reducible exact ih6 _ _ _ _ _ _ _ _ _)
      | (with_reducible exact ih7 _ _ _ _ _ _ _)
      | (with_reducible exact spec_ParseInt.mono _ _)
      | (with_reducible exact LeO.refl _)
      | (with_reducible exact LeO.none _)
      | (with_reducible refine LeO.ite ?_ ?_)
      | (with_reducible refine LeO.bind ?_ (fun _ => ?_))
      | exact ih0 _ _ _ _ _
      | exact ih1 _ _ _ _ _ _ _
      | exact ih2 _ _ _ _ _ _ _
      | exact ih3 _ _ _ _ _ _ _
      | exact ih4 _ _ _ _ _ _ _ _ _
      | exact ih5 _ _ _ _ _ _ _ _ _
      | exact ih6 _ _ _ _ _ _ _ _ _
      | exact ih7 _ _ _ _ _ _ _
      | exact spec_ParseInt.mono _ _
      | exact LeO.none _
      | refine LeO.ite ?_ ?_
      | refine LeO.bind ?_ (fun _ => ?_)
    · intro y0 y1 y2 y3 y4 y5 y6
      unfold spec_l16Read.l0
      repeat' first
      | (with_reducible exact ih0 _ _ _ _ _)
      | (with_reducible exact ih1 _ _ _ _ _ _ _)
      | (with_reducible exact ih2 _ _ _ _ _ _ _)
      | (with_reducible exact ih3 _ _ _ _ _ _ _)
      | (with_reducible exact ih4 _ _ _ _ _ _ _ _ _)
      | (with_reducible exact ih5 _ _ _ _ _ _ _ _ _)
      | (with_reducible exact ih6 _ _ _ _ _ _ _ _ _)
      | (with_reducible exact ih7 _ _ _ _ _ _ _)
      | (with_reducible exact spec_ParseInt.mono _ _)
      | (with_reducible exact LeO.refl _)
      | (with_reducible exact LeO.none _)
      | (with_reducible refine LeO.ite ?_ ?_)
      | (with_reducible refine LeO.bind ?_ (fun _ => ?_))
      | exact ih0 _ _ _ _ _
      | exact ih1 _ _ _ _ _ _ _
      | exact ih2 _ _ _ _ _ _ _
      | exact ih3 _ _ _ _ _ _ _
      | exact ih4 _ _ _ _ _ _ _ _ _
      | exact ih5 _ _ _ _ _ _ _ _ _
      | exact ih6 _ _ _ _ _ _ _ _ _
      | exact ih7 _ _ _ _ _ _ _
      | exact spec_ParseInt.mono _ _
      | exact LeO.none _
      | refine LeO.ite ?_ ?_
      | refine LeO.bind ?_ (fun _ => ?_)
theorem spec_l16Read.mono : ∀ a0 a1 a2 a3 a4 k, LeO (spec_l16Read.f k a0 a1 a2 a3 a4) (spec_l16Read.f (k + 1) a0 a1 a2 a3 a4) := by
  intro a0 a1 a2 a3 a4 k
  obtain ⟨ih0, ih1, ih2, ih3, ih4, ih5, ih6, ih7⟩ := spec_l16Read.mono_l k
  exact ih0 a0 a1 a2 a3 a4
set_option maxHeartbeats 8000000 in
set_option maxRecDepth 100000 in
theorem spec_l16Read.calls (k : Nat) : ∀ (a0 : Int) (a1 : Int) (A2 : Option Addr) (c2 : Nat) (l2 : List (List Int)) (a3 : ByteArray) (a4 : Int) (r1 : Int) (r2 : Int) (w : World) (hr2 : Kd.C (Kd.slice 3 (Kd.int .i64)) w A2 l2.length l2) (hc2 : l2.length ≤ c2) (h : spec_l16Read.f k a0 a1 l2 a3 a4 = some (r1, r2)),
    Calls Tryd.prog 38 #[.int .i64 a0, .int .i64 a1, .slice A2 l2.length c2, .string a3, .int .i64 a4] w fun e w' => e = .returned (.tuple #[.int .i64 r1, .int .i64 r2]) ∧ Below w.heap.size w w' := by
  induction k using Nat.strongRecOn with
  | _ k ih =>
  intro a0 a1 A2 c2 l2 a3 a4 r1 r2 w hr2 hc2 h
  cases k with
  | zero => exact absurd h (by simp [spec_l16Read.f])
  | succ k =>
  simp only [spec_l16Read.f] at h
  have HR2 := Aside0.mk hr2
  have HC2 := Aside0.mk hc2
  clear hr2 hc2
  have HB := Aside0.mk (Below.refl w.heap.size w)
  have H : (if a4 ≥ (a3.size : Int) then (some ((-1), a4)) else (if 0 ≤ a4 then (if a4 < (a3.size : Int) then (if (bt a3 a4) = 46 then (some (0, wrap64 (a4 + 1))) else (if (bt a3 a4) ≥ 97 then (spec_l16Read.j0 k a0 a1 l2 a3 a4 (bt a3 a4) (decide ((bt a3 a4) ≤ 102))) else (spec_l16Read.j0 k a0 a1 l2 a3 a4 (bt a3 a4) false))) else (none)) else (none))) = some (r1, r2) := h
  clear h
  by_cases c6 : a4 ≥ (a3.size : Int)
  · rw [if_pos c6] at H
    have c6b0 : decide ((a3.size : Int) ≤ a4) = true := decide_eq_true c6
    clear c6
    simp only [Option.some.injEq, Prod.mk.injEq] at H
    obtain ⟨rfl, rfl⟩ := H
    go_enter Tryd.func38, Tryd.ntmps38
    go_wp2
    go_ret2
    exact ⟨by first | rfl | (simp [errW_none, errW_some] <;> rfl) | (simp [*, errW_none, errW_some] <;> rfl), by repeat (first | (with_reducible first | exact HB.out | apply below_alloc | apply pw_below_drewN | apply below_drew1) | exact HB.out)⟩
  · rw [if_neg c6] at H
    have c6b0 : decide ((a3.size : Int) ≤ a4) = false := decide_eq_false c6
    clear c6
    by_cases c7 : 0 ≤ a4
    · rw [if_pos c7] at H
      have c7b0 : decide (0 ≤ a4) = true := decide_eq_true c7
      clear c7
      by_cases c8 : a4 < (a3.size : Int)
      · rw [if_pos c8] at H
        have c8b0 : decide (a4 < (a3.size : Int)) = true := decide_eq_true c8
        clear c8
        by_cases c10 : (bt a3 a4) = 46
        · rw [if_pos c10] at H
          have c10b0 : ((bt a3 a4) == 46) = true := beq_iff_eq.mpr c10
          have c10b1 : ((bt a3 a4) != 46) = false := bne_eq_false_iff_eq.mpr c10
          clear c10
          simp only [Option.some.injEq, Prod.mk.injEq] at H
          obtain ⟨rfl, rfl⟩ := H
          have p9 : 0 ≤ (a4 : Int) := of_decide_eq_true (by first | (with_reducible assumption) | assumption)
          have q9 : a4 < (a3.size : Int) := of_decide_eq_true (by first | (with_reducible assumption) | assumption)
          have hx9 := bt_at a3 a4
          replace p9 := eq_true p9
          replace q9 := eq_true q9
          go_enter Tryd.func38, Tryd.ntmps38
          as_aux_lemma =>
           go_wp2
           go_ret2
           exact ⟨by first | rfl | (simp [errW_none, errW_some] <;> rfl) | (simp [*, errW_none, errW_some] <;> rfl), by repeat (first | (with_reducible first | exact HB.out | apply below_alloc | apply pw_below_drewN | apply below_drew1) | exact HB.out)⟩
        · rw [if_neg c10] at H
          have c10b0 : ((bt a3 a4) == 46) = false := beq_eq_false_iff_ne.mpr c10
          have c10b1 : ((bt a3 a4) != 46) = true := bne_iff_ne.mpr c10
          have HC11 := Aside0.mk H
          clear H
          have p9 : 0 ≤ (a4 : Int) := of_decide_eq_true (by first | (with_reducible assumption) | assumption)
          have q9 : a4 < (a3.size : Int) := of_decide_eq_true (by first | (with_reducible assumption) | assumption)
          have hx9 := bt_at a3 a4
          replace p9 := eq_true p9
          replace q9 := eq_true q9
          go_enter Tryd.func38, Tryd.ntmps38
          go_upto_region 6 with (fail)
          go_cut [40] (fun v40 wc => ∃ (kq : Nat) (x40_10 : Bool), v40 = .bool x40_10 ∧ Aside0 (spec_l16Read.j0 kq a0 a1 l2 a3 a4 (bt a3 a4) x40_10 = some (r1, r2)) ∧ Aside0 (kq ≤ k) ∧ Aside0 (Below w.heap.size w wc))
          case first =>
           as_aux_lemma =>
             have H := HC11.out
             clear HC11
             by_cases c12 : (bt a3 a4) ≥ 97
             · rw [if_pos c12] at H
               have c12b0 : decide (97 ≤ (bt a3 a4)) = true := decide_eq_true c12
               clear c12
               (first | rw [c12b0] | (simp only [i64_w, i32_w]; rw [c12b0]) | skip)
               have H' := Aside0.mk H
               clear H
               as_aux_lemma =>
                go_wp2
                go_meet
                case rel => exact ⟨_, (decide ((bt a3 a4) ≤ 102)), (by first | rfl | (simp; done) | (simp [*]; done)), H', ⟨by first | omega | exact Nat.le_refl _⟩, ⟨by repeat (first | (with_reducible first | exact HB.out | apply below_alloc | apply pw_below_drewN | apply below_drew1) | exact HB.out)⟩⟩
             · rw [if_neg c12] at H
               have c12b0 : decide (97 ≤ (bt a3 a4)) = false := decide_eq_false c12
               clear c12
               (first | rw [c12b0] | (simp only [i64_w, i32_w]; rw [c12b0]) | skip)
               have H' := Aside0.mk H
               clear H
               as_aux_lemma =>
                go_wp2
                go_meet
                case rel => exact ⟨_, (false), (by first | rfl | (simp; done) | (simp [*]; done)), H', ⟨by first | omega | exact Nat.le_refl _⟩, ⟨by repeat (first | (with_reducible first | exact HB.out | apply below_alloc | apply pw_below_drewN | apply below_drew1) | exact HB.out)⟩⟩
          case rest =>
           as_aux_lemma =>
             clear HC11
             try clear c1
             try clear c2
             try clear p2
             try clear c3
             try clear c6
             try clear c6b0
             try clear p6
             try clear c7
             try clear c7b0
             try clear c8
             try clear c8b0
             try clear p9
             try clear q9
             try clear hx9
             try clear c10
             try clear c10b0
             try clear c10b1
             try clear c12
             try clear c12b0
             try clear p9
             try clear q9
             obtain ⟨kq, x40_10, rfl, HA, HJ10, HB⟩ := hcut
             cases kq with
             | zero => exact absurd HA.out (by simp [spec_l16Read.j0])
             | succ kj10 =>
               have H := HA.out
               clear HA
               simp only [spec_l16Read.j0] at H
               by_cases c13 : x40_10 = true
               · subst c13
                 have H1 : (if (((bt a3 a4) - 97) % 256) ≥ (l2.length : Int) then (some ((-1), a4)) else (if 0 ≤ (((bt a3 a4) - 97) % 256) then (if (((bt a3 a4) - 97) % 256) < (l2.length : Int) then (if 0 < ((rd_L1 l2 (((bt a3 a4) - 97) % 256)).length : Int) then (if (rd (rd_L1 l2 (((bt a3 a4) - 97) % 256)) 0) = a0 then (if 1 < ((rd_L1 l2 (((bt a3 a4) - 97) % 256)).length : Int) then (if (rd (rd_L1 l2 (((bt a3 a4) - 97) % 256)) 1) = a1 then (if 2 < ((rd_L1 l2 (((bt a3 a4) - 97) % 256)).length : Int) then (some (rd (rd_L1 l2 (((bt a3 a4) - 97) % 256)) 2, wrap64 (a4 + 1))) else (none)) else (some ((-1), a4))) else (none)) else (some ((-1), a4))) else (none)) else (none)) else (none))) = some (r1, r2) := by rw [if_pos rfl] at H; exact H
                 clear H
                 have H := H1
                 clear H1
                 by_cases c14 : (((bt a3 a4) - 97) % 256) ≥ (l2.length : Int)
                 · rw [if_pos c14] at H
                   have c14b0 : decide ((l2.length : Int) ≤ (((bt a3 a4) - 97) % 256)) = true := decide_eq_true c14
                   clear c14
                   simp only [Option.some.injEq, Prod.mk.injEq] at H
                   obtain ⟨rfl, rfl⟩ := H
                   as_aux_lemma =>
                    go_wp2
                    go_ret2
                    exact ⟨by first | rfl | (simp [errW_none, errW_some] <;> rfl) | (simp [*, errW_none, errW_some] <;> rfl), by repeat (first | (with_reducible first | exact HB.out | apply below_alloc | apply pw_below_drewN | apply below_drew1) | exact HB.out)⟩
                 · rw [if_neg c14] at H
                   have c14b0 : decide ((l2.length : Int) ≤ (((bt a3 a4) - 97) % 256)) = false := decide_eq_false c14
                   clear c14
                   obtain ⟨ji15, hji15⟩ : ∃ j_ : Int, (((bt a3 a4) - 97) % 256) = j_ := ⟨_, rfl⟩
                   replace H : (if 0 ≤ (ji15) then (if (ji15) < (l2.length : Int) then (if 0 < ((rd_L1 l2 (ji15)).length : Int) then (if (rd (rd_L1 l2 (ji15)) 0) = a0 then (if 1 < ((rd_L1 l2 (ji15)).length : Int) then (if (rd (rd_L1 l2 (ji15)) 1) = a1 then (if 2 < ((rd_L1 l2 (ji15)).length : Int) then (some (rd (rd_L1 l2 (ji15)) 2, wrap64 (a4 + 1))) else (none)) else (some ((-1), a4))) else (none)) else (some ((-1), a4))) else (none)) else (none)) else (none)) = some (r1, r2) := by first | (rw [hji15] at H; exact H) | (simp only [hji15] at H ⊢; exact H)
                   (try rw [hji15] at c14b0)
                   by_cases c16 : 0 ≤ (ji15)
                   · rw [if_pos c16] at H
                     have c16b0 : decide (0 ≤ (ji15)) = true := decide_eq_true c16
                     clear c16
                     by_cases c17 : (ji15) < (l2.length : Int)
                     · rw [if_pos c17] at H
                       have c17b0 : decide ((ji15) < (l2.length : Int)) = true := decide_eq_true c17
                       clear c17
                       by_cases c18 : 0 < ((rd_L1 l2 (ji15)).length : Int)
                       · rw [if_pos c18] at H
                         have c18b0 : decide (0 < ((rd_L1 l2 (ji15)).length : Int)) = true := decide_eq_true c18
                         have c18b1 : decide (0 < (rd_L1 l2 (ji15)).length) = true := decide_eq_true (by omega)
                         clear c18
                         by_cases c19 : (rd (rd_L1 l2 (ji15)) 0) = a0
                         · rw [if_pos c19] at H
                           have c19b0 : ((rd (rd_L1 l2 (ji15)) 0) == a0) = true := beq_iff_eq.mpr c19
                           have c19b1 : ((rd (rd_L1 l2 (ji15)) 0) != a0) = false := bne_eq_false_iff_eq.mpr c19
                           clear c19
                           by_cases c20 : 1 < ((rd_L1 l2 (ji15)).length : Int)
                           · rw [if_pos c20] at H
                             have c20b0 : decide (1 < ((rd_L1 l2 (ji15)).length : Int)) = true := decide_eq_true c20
                             have c20b1 : decide (1 < (rd_L1 l2 (ji15)).length) = true := decide_eq_true (by omega)
                             clear c20
                             by_cases c21 : (rd (rd_L1 l2 (ji15)) 1) = a1
                             · rw [if_pos c21] at H
                               have c21b0 : ((rd (rd_L1 l2 (ji15)) 1) == a1) = true := beq_iff_eq.mpr c21
                               have c21b1 : ((rd (rd_L1 l2 (ji15)) 1) != a1) = false := bne_eq_false_iff_eq.mpr c21
                               clear c21
                               by_cases c22 : 2 < ((rd_L1 l2 (ji15)).length : Int)
                               · rw [if_pos c22] at H
                                 have c22b0 : decide (2 < ((rd_L1 l2 (ji15)).length : Int)) = true := decide_eq_true c22
                                 have c22b1 : decide (2 < (rd_L1 l2 (ji15)).length) = true := decide_eq_true (by omega)
                                 clear c22
                                 simp only [Option.some.injEq, Prod.mk.injEq] at H
                                 obtain ⟨rfl, rfl⟩ := H
                                 have p156 : 0 ≤ ((ji15) : Int) := of_decide_eq_true (by first | (with_reducible assumption) | assumption)
                                 have q156 : (ji15) < (l2.length : Int) := of_decide_eq_true (by first | (with_reducible assumption) | assumption)
                                 obtain ⟨ad156, A156_0, c156_0, e156, hx156_0, hl156_0, hi156_0⟩ := at_L1 HR2.out (ji15) p156 q156
                                 cases e156
                                 (try replace hx156_0 := (HB.out.cell (World.block_lt_of_cell? w _ hx156_0)).trans hx156_0)
                                 have HR156_0 := Aside0.mk hi156_0
                                 have HC156_0 := Aside0.mk hl156_0
                                 clear hi156_0 hl156_0
                                 replace p156 := eq_true p156
                                 replace q156 := eq_true q156
                                 have p157 : 0 ≤ (0 : Int) := (by omega)
                                 have q157 : 0 < ((rd_L1 l2 (ji15)).length : Int) := of_decide_eq_true (by first | (with_reducible assumption) | assumption)
                                 obtain ⟨ad157, e157, hx157_0⟩ := Kd.at_int HR156_0.out 0 p157 q157
                                 cases e157
                                 have qi157 : (0 < (rd_L1 l2 (ji15)).length) = True := eq_true (by omega)
                                 (try rw [show ((0 : Int)).toNat = 0 from rfl] at hx157_0)
                                 (try rw [Addr.add_zero'] at hx157_0)
                                 (try replace hx157_0 := (HB.out.cell (World.block_lt_of_cell? w _ hx157_0)).trans hx157_0)
                                 replace p157 := eq_true p157
                                 replace q157 := eq_true q157
                                 have p158 : 0 ≤ ((ji15) : Int) := of_decide_eq_true (by first | (with_reducible assumption) | assumption)
                                 have q158 : (ji15) < (l2.length : Int) := of_decide_eq_true (by first | (with_reducible assumption) | assumption)
                                 obtain ⟨ad158, A158_0, c158_0, e158, hx158_0, hl158_0, hi158_0⟩ := at_L1 HR2.out (ji15) p158 q158
                                 obtain rfl : ad156 = ad158 := (by injection e158)
                                 (try replace hx158_0 := (HB.out.cell (World.block_lt_of_cell? w _ hx158_0)).trans hx158_0)
                                 have HR158_0 := Aside0.mk hi158_0
                                 have HC158_0 := Aside0.mk hl158_0
                                 clear hi158_0 hl158_0
                                 replace p158 := eq_true p158
                                 replace q158 := eq_true q158
                                 have ea_ := Option.some.inj (hx156_0.symm.trans hx158_0)
                                 injection ea_ with ea_ en_ ec_
                                 subst ea_
                                 subst ec_
                                 clear en_
                                 have p159 : 0 ≤ (1 : Int) := (by omega)
                                 have q159 : 1 < ((rd_L1 l2 (ji15)).length : Int) := of_decide_eq_true (by first | (with_reducible assumption) | assumption)
                                 obtain ⟨ad159, e159, hx159_0⟩ := Kd.at_int HR158_0.out 1 p159 q159
                                 cases e159
                                 (try simp only [show (1 : Int).toNat = 1 from rfl, Nat.reduceMul, Nat.reduceEqDiff, Go.Addr.add, ↓reduceIte] at hx159_0)
                                 have qi159 : (1 < (rd_L1 l2 (ji15)).length) = True := eq_true (by omega)
                                 (try rw [show ((1 : Int)).toNat = 1 from rfl] at hx159_0)
                                 (try replace hx159_0 := (HB.out.cell (World.block_lt_of_cell? w _ hx159_0)).trans hx159_0)
                                 replace p159 := eq_true p159
                                 replace q159 := eq_true q159
                                 have p160 : 0 ≤ ((ji15) : Int) := of_decide_eq_true (by first | (with_reducible assumption) | assumption)
                                 have q160 : (ji15) < (l2.length : Int) := of_decide_eq_true (by first | (with_reducible assumption) | assumption)
                                 obtain ⟨ad160, A160_0, c160_0, e160, hx160_0, hl160_0, hi160_0⟩ := at_L1 HR2.out (ji15) p160 q160
                                 obtain rfl : ad156 = ad160 := (by injection e160)
                                 (try replace hx160_0 := (HB.out.cell (World.block_lt_of_cell? w _ hx160_0)).trans hx160_0)
                                 have HR160_0 := Aside0.mk hi160_0
                                 have HC160_0 := Aside0.mk hl160_0
                                 clear hi160_0 hl160_0
                                 replace p160 := eq_true p160
                                 replace q160 := eq_true q160
                                 have ea_ := Option.some.inj (hx156_0.symm.trans hx160_0)
                                 injection ea_ with ea_ en_ ec_
                                 subst ea_
                                 subst ec_
                                 clear en_
                                 have p161 : 0 ≤ (2 : Int) := (by omega)
                                 have q161 : 2 < ((rd_L1 l2 (ji15)).length : Int) := of_decide_eq_true (by first | (with_reducible assumption) | assumption)
                                 obtain ⟨ad161, e161, hx161_0⟩ := Kd.at_int HR160_0.out 2 p161 q161
                                 cases e161
                                 (try simp only [show (2 : Int).toNat = 2 from rfl, Nat.reduceMul, Nat.reduceEqDiff, Go.Addr.add, ↓reduceIte] at hx161_0)
                                 have qi161 : (2 < (rd_L1 l2 (ji15)).length) = True := eq_true (by omega)
                                 (try rw [show ((2 : Int)).toNat = 2 from rfl] at hx161_0)
                                 (try replace hx161_0 := (HB.out.cell (World.block_lt_of_cell? w _ hx161_0)).trans hx161_0)
                                 replace p161 := eq_true p161
                                 replace q161 := eq_true q161
                                 as_aux_lemma =>
                                  go_wp2
                                  go_ret2
                                  exact ⟨by first | rfl | (simp [errW_none, errW_some] <;> rfl) | (simp only [← hji15]; first | rfl | (simp [errW_none, errW_some] <;> rfl)) | (simp [*, errW_none, errW_some] <;> rfl), by repeat (first | (with_reducible first | exact HB.out | apply below_alloc | apply pw_below_drewN | apply below_drew1) | exact HB.out)⟩
                               · rw [if_neg c22] at H
                                 exact absurd H (by simp)
                             · rw [if_neg c21] at H
                               have c21b0 : ((rd (rd_L1 l2 (ji15)) 1) == a1) = false := beq_eq_false_iff_ne.mpr c21
                               have c21b1 : ((rd (rd_L1 l2 (ji15)) 1) != a1) = true := bne_iff_ne.mpr c21
                               simp only [Option.some.injEq, Prod.mk.injEq] at H
                               obtain ⟨rfl, rfl⟩ := H
                               have p156 : 0 ≤ ((ji15) : Int) := of_decide_eq_true (by first | (with_reducible assumption) | assumption)
                               have q156 : (ji15) < (l2.length : Int) := of_decide_eq_true (by first | (with_reducible assumption) | assumption)
                               obtain ⟨ad156, A156_0, c156_0, e156, hx156_0, hl156_0, hi156_0⟩ := at_L1 HR2.out (ji15) p156 q156
                               cases e156
                               (try replace hx156_0 := (HB.out.cell (World.block_lt_of_cell? w _ hx156_0)).trans hx156_0)
                               have HR156_0 := Aside0.mk hi156_0
                               have HC156_0 := Aside0.mk hl156_0
                               clear hi156_0 hl156_0
                               replace p156 := eq_true p156
                               replace q156 := eq_true q156
                               have p157 : 0 ≤ (0 : Int) := (by omega)
                               have q157 : 0 < ((rd_L1 l2 (ji15)).length : Int) := of_decide_eq_true (by first | (with_reducible assumption) | assumption)
                               obtain ⟨ad157, e157, hx157_0⟩ := Kd.at_int HR156_0.out 0 p157 q157
                               cases e157
                               have qi157 : (0 < (rd_L1 l2 (ji15)).length) = True := eq_true (by omega)
                               (try rw [show ((0 : Int)).toNat = 0 from rfl] at hx157_0)
                               (try rw [Addr.add_zero'] at hx157_0)
                               (try replace hx157_0 := (HB.out.cell (World.block_lt_of_cell? w _ hx157_0)).trans hx157_0)
                               replace p157 := eq_true p157
                               replace q157 := eq_true q157
                               have p158 : 0 ≤ ((ji15) : Int) := of_decide_eq_true (by first | (with_reducible assumption) | assumption)
                               have q158 : (ji15) < (l2.length : Int) := of_decide_eq_true (by first | (with_reducible assumption) | assumption)
                               obtain ⟨ad158, A158_0, c158_0, e158, hx158_0, hl158_0, hi158_0⟩ := at_L1 HR2.out (ji15) p158 q158
                               obtain rfl : ad156 = ad158 := (by injection e158)
                               (try replace hx158_0 := (HB.out.cell (World.block_lt_of_cell? w _ hx158_0)).trans hx158_0)
                               have HR158_0 := Aside0.mk hi158_0
                               have HC158_0 := Aside0.mk hl158_0
                               clear hi158_0 hl158_0
                               replace p158 := eq_true p158
                               replace q158 := eq_true q158
                               have ea_ := Option.some.inj (hx156_0.symm.trans hx158_0)
                               injection ea_ with ea_ en_ ec_
                               subst ea_
                               subst ec_
                               clear en_
                               have p159 : 0 ≤ (1 : Int) := (by omega)
                               have q159 : 1 < ((rd_L1 l2 (ji15)).length : Int) := of_decide_eq_true (by first | (with_reducible assumption) | assumption)
                               obtain ⟨ad157, e159, hx159_0⟩ := Kd.at_int HR158_0.out 1 p159 q159
                               cases e159
                               (try simp only [show (1 : Int).toNat = 1 from rfl, Nat.reduceMul, Nat.reduceEqDiff, Go.Addr.add, ↓reduceIte] at hx159_0)
                               have qi159 : (1 < (rd_L1 l2 (ji15)).length) = True := eq_true (by omega)
                               (try rw [show ((1 : Int)).toNat = 1 from rfl] at hx159_0)
                               (try replace hx159_0 := (HB.out.cell (World.block_lt_of_cell? w _ hx159_0)).trans hx159_0)
                               replace p159 := eq_true p159
                               replace q159 := eq_true q159
                               as_aux_lemma =>
                                go_wp2
                                go_ret2
                                exact ⟨by first | rfl | (simp [errW_none, errW_some] <;> rfl) | (simp only [← hji15]; first | rfl | (simp [errW_none, errW_some] <;> rfl)) | (simp [*, errW_none, errW_some] <;> rfl), by repeat (first | (with_reducible first | exact HB.out | apply below_alloc | apply pw_below_drewN | apply below_drew1) | exact HB.out)⟩
                           · rw [if_neg c20] at H
                             exact absurd H (by simp)
                         · rw [if_neg c19] at H
                           have c19b0 : ((rd (rd_L1 l2 (ji15)) 0) == a0) = false := beq_eq_false_iff_ne.mpr c19
                           have c19b1 : ((rd (rd_L1 l2 (ji15)) 0) != a0) = true := bne_iff_ne.mpr c19
                           simp only [Option.some.injEq, Prod.mk.injEq] at H
                           obtain ⟨rfl, rfl⟩ := H
                           have p156 : 0 ≤ ((ji15) : Int) := of_decide_eq_true (by first | (with_reducible assumption) | assumption)
                           have q156 : (ji15) < (l2.length : Int) := of_decide_eq_true (by first | (with_reducible assumption) | assumption)
                           obtain ⟨ad156, A156_0, c156_0, e156, hx156_0, hl156_0, hi156_0⟩ := at_L1 HR2.out (ji15) p156 q156
                           cases e156
                           (try replace hx156_0 := (HB.out.cell (World.block_lt_of_cell? w _ hx156_0)).trans hx156_0)
                           have HR156_0 := Aside0.mk hi156_0
                           have HC156_0 := Aside0.mk hl156_0
                           clear hi156_0 hl156_0
                           replace p156 := eq_true p156
                           replace q156 := eq_true q156
                           have p157 : 0 ≤ (0 : Int) := (by omega)
                           have q157 : 0 < ((rd_L1 l2 (ji15)).length : Int) := of_decide_eq_true (by first | (with_reducible assumption) | assumption)
                           obtain ⟨ad157, e157, hx157_0⟩ := Kd.at_int HR156_0.out 0 p157 q157
                           cases e157
                           have qi157 : (0 < (rd_L1 l2 (ji15)).length) = True := eq_true (by omega)
                           (try rw [show ((0 : Int)).toNat = 0 from rfl] at hx157_0)
                           (try rw [Addr.add_zero'] at hx157_0)
                           (try replace hx157_0 := (HB.out.cell (World.block_lt_of_cell? w _ hx157_0)).trans hx157_0)
                           replace p157 := eq_true p157
                           replace q157 := eq_true q157
                           as_aux_lemma =>
                            go_wp2
                            go_ret2
                            exact ⟨by first | rfl | (simp [errW_none, errW_some] <;> rfl) | (simp only [← hji15]; first | rfl | (simp [errW_none, errW_some] <;> rfl)) | (simp [*, errW_none, errW_some] <;> rfl), by repeat (first | (with_reducible first | exact HB.out | apply below_alloc | apply pw_below_drewN | apply below_drew1) | exact HB.out)⟩
                       · rw [if_neg c18] at H
                         exact absurd H (by simp)
                     · rw [if_neg c17] at H
                       exact absurd H (by simp)
                   · rw [if_neg c16] at H
                     exact absurd H (by simp)
               · replace c13 := Bool.eq_false_iff.mpr c13
                 subst c13
                 have H1 : (if (bt a3 a4) = 118 then (spec_l16Read.j1 kj10 a0 a1 l2 a3 a4 (bt a3 a4) false) else (spec_l16Read.j1 kj10 a0 a1 l2 a3 a4 (bt a3 a4) ((bt a3 a4) != 104))) = some (r1, r2) := by rw [if_neg (show ¬ (false = true) by decide)] at H; exact H
                 clear H
                 have H := H1
                 clear H1
                 have HC23 := Aside0.mk H
                 clear H
                 go_upto_region 11 with (fail)
                 go_cut [82] (fun v82 wc => ∃ (kq : Nat) (x82_22 : Bool), v82 = .bool x82_22 ∧ Aside0 (spec_l16Read.j1 kq a0 a1 l2 a3 a4 (bt a3 a4) x82_22 = some (r1, r2)) ∧ Aside0 (kq ≤ kj10) ∧ Aside0 (Below w.heap.size w wc))
                 case first =>
                  as_aux_lemma =>
                    have H := HC23.out
                    clear HC23
                    by_cases c24 : (bt a3 a4) = 118
                    · rw [if_pos c24] at H
                      have c24b0 : ((bt a3 a4) == 118) = true := beq_iff_eq.mpr c24
                      have c24b1 : ((bt a3 a4) != 118) = false := bne_eq_false_iff_eq.mpr c24
                      clear c24
                      (first | rw [c24b0] | (simp only [i64_w, i32_w]; rw [c24b0]) | skip)
                      have H' := Aside0.mk H
                      clear H
                      as_aux_lemma =>
                       go_wp2
                       go_meet
                       case rel => exact ⟨_, (false), (by first | rfl | (simp; done) | (simp [*]; done)), H', ⟨by have := HJ10.out; first | omega | exact Nat.le_refl _⟩, ⟨by repeat (first | (with_reducible first | exact HB.out | apply below_alloc | apply pw_below_drewN | apply below_drew1) | exact HB.out)⟩⟩
                    · rw [if_neg c24] at H
                      have c24b0 : ((bt a3 a4) == 118) = false := beq_eq_false_iff_ne.mpr c24
                      have c24b1 : ((bt a3 a4) != 118) = true := bne_iff_ne.mpr c24
                      (first | rw [c24b0] | (simp only [i64_w, i32_w]; rw [c24b0]) | skip)
                      have H' := Aside0.mk H
                      clear H
                      as_aux_lemma =>
                       go_wp2
                       go_meet
                       case rel => exact ⟨_, (((bt a3 a4) != 104)), (by first | rfl | (simp; done) | (simp [*]; done)), H', ⟨by have := HJ10.out; first | omega | exact Nat.le_refl _⟩, ⟨by repeat (first | (with_reducible first | exact HB.out | apply below_alloc | apply pw_below_drewN | apply below_drew1) | exact HB.out)⟩⟩
                 case rest =>
                  as_aux_lemma =>
                    clear HC23
                    try clear c1
                    try clear p1
                    try clear q1
                    try clear hx1
                    try clear qi1
                    try clear c2
                    try clear p2
                    try clear c3
                    try clear c6
                    try clear c6b0
                    try clear p6
                    try clear c7
                    try clear c7b0
                    try clear c8
                    try clear c8b0
                    try clear p9
                    try clear q9
                    try clear hx9
                    try clear c10
                    try clear c10b0
                    try clear c10b1
                    try clear c12
                    try clear c12b0
                    try clear c13
                    try clear c14
                    try clear c14b0
                    try clear c15
                    try clear p15
                    try clear q15
                    try clear hx15
                    try clear qi15
                    try clear c16
                    try clear c16b0
                    try clear p16
                    try clear q16
                    try clear hx16
                    try clear qi16
                    try clear c17
                    try clear c17b0
                    try clear c18
                    try clear c18b0
                    try clear c18b1
                    try clear c19
                    try clear c19b0
                    try clear c19b1
                    try clear c20
                    try clear c20b0
                    try clear c20b1
                    try clear c21
                    try clear c21b0
                    try clear c21b1
                    try clear c22
                    try clear c22b0
                    try clear c22b1
                    try clear c24
                    try clear c24b0
                    try clear c24b1
                    try clear hx156_0
                    try clear hx157_0
                    try clear hx158_0
                    try clear hx159_0
                    try clear hx160_0
                    try clear hx161_0
                    try clear p156
                    try clear p157
                    try clear p158
                    try clear p159
                    try clear p160
                    try clear p161
                    try clear p2
                    try clear p6
                    try clear p9
                    try clear q156
                    try clear q157
                    try clear q158
                    try clear q159
                    try clear q160
                    try clear q161
                    try clear q9
                    obtain ⟨kq, x82_22, rfl, HA, HJ22, HB⟩ := hcut
                    cases kq with
                    | zero => exact absurd HA.out (by simp [spec_l16Read.j1])
                    | succ kj22 =>
                      have H := HA.out
                      clear HA
                      simp only [spec_l16Read.j1] at H
                      by_cases c25 : x82_22 = true
                      · subst c25
                        have H1 : (some ((-1), a4)) = some (r1, r2) := by rw [if_pos rfl] at H; exact H
                        clear H
                        have H := H1
                        clear H1
                        simp only [Option.some.injEq, Prod.mk.injEq] at H
                        obtain ⟨rfl, rfl⟩ := H
                        as_aux_lemma =>
                         go_wp2
                         go_ret2
                         exact ⟨by first | rfl | (simp [errW_none, errW_some] <;> rfl) | (simp [*, errW_none, errW_some] <;> rfl), by repeat (first | (with_reducible first | exact HB.out | apply below_alloc | apply pw_below_drewN | apply below_drew1) | exact HB.out)⟩
                      · replace c25 := Bool.eq_false_iff.mpr c25
                        subst c25
                        have H1 : (spec_l16Read.l0 kj22 a0 a1 l2 a3 a4 (bt a3 a4) (wrap64 (a4 + 1))) = some (r1, r2) := by rw [if_neg (show ¬ (false = true) by decide)] at H; exact H
                        clear H
                        have H := H1
                        clear H1
                        have HC26 := Aside0.mk H
                        clear H
                        go_upto_block 0 with (fail)
                        go_cut [14] (fun v14 wc => ∃ (kq : Nat) (x14_25 : Int), v14 = .int .i64 x14_25 ∧ Aside0 (spec_l16Read.j3 kq a0 a1 l2 a3 a4 (bt a3 a4) x14_25 = some (r1, r2)) ∧ Aside0 (kq ≤ kj22) ∧ Aside0 (Below w.heap.size w wc))
                        case first =>
                         as_aux_lemma =>
                           have H := HC26.out
                           clear HC26
                           have H' := Aside0.mk H
                           clear H
                           as_aux_lemma =>
                            go_wp2
                            go_loopg [14] kj22 (fun kq v14 w' => ∃ (x14_3 : Int), v14 = .int .i64 x14_3 ∧ Aside0 (spec_l16Read.l0 kq a0 a1 l2 a3 a4 (bt a3 a4) x14_3 = some (r1, r2)) ∧ Aside0 (kq ≤ kj22) ∧ Aside0 (Below w.heap.size w w'))
                            case atStart => exact ⟨(wrap64 (a4 + 1)), (by first | rfl | (simp; done) | (simp [*]; done)), H', ⟨Nat.le_refl _⟩, ⟨by repeat (first | (with_reducible first | exact HB.out | apply below_alloc | apply pw_below_drewN | apply below_drew1) | exact HB.out)⟩⟩
                            case round =>
                              clear H'
                              try clear c1
                              try clear p1
                              try clear q1
                              try clear hx1
                              try clear qi1
                              try clear c2
                              try clear p2
                              try clear c3
                              try clear c6
                              try clear c6b0
                              try clear p6
                              try clear c7
                              try clear c7b0
                              try clear c8
                              try clear c8b0
                              try clear p9
                              try clear q9
                              try clear hx9
                              try clear c10
                              try clear c10b0
                              try clear c10b1
                              try clear c12
                              try clear c12b0
                              try clear c13
                              try clear c14
                              try clear c14b0
                              try clear c15
                              try clear p15
                              try clear q15
                              try clear hx15
                              try clear qi15
                              try clear c16
                              try clear c16b0
                              try clear p16
                              try clear q16
                              try clear hx16
                              try clear qi16
                              try clear c17
                              try clear c17b0
                              try clear c18
                              try clear c18b0
                              try clear c18b1
                              try clear c19
                              try clear c19b0
                              try clear c19b1
                              try clear c20
                              try clear c20b0
                              try clear c20b1
                              try clear c21
                              try clear c21b0
                              try clear c21b1
                              try clear c22
                              try clear c22b0
                              try clear c22b1
                              try clear c24
                              try clear c24b0
                              try clear c24b1
                              try clear c25
                              try clear hx156_0
                              try clear hx157_0
                              try clear hx158_0
                              try clear hx159_0
                              try clear hx160_0
                              try clear hx161_0
                              try clear p1
                              try clear p15
                              try clear p156
                              try clear p157
                              try clear p158
                              try clear p159
                              try clear p16
                              try clear p160
                              try clear p161
                              try clear p2
                              try clear p6
                              try clear p9
                              try clear q1
                              try clear q15
                              try clear q156
                              try clear q157
                              try clear q158
                              try clear q159
                              try clear q16
                              try clear q160
                              try clear q161
                              try clear q9
                              obtain ⟨x14_3, rfl, HA, HK3, HB⟩ := hrel
                              cases gk with
                              | zero => exact absurd HA.out (by simp [spec_l16Read.l0])
                              | succ k3 =>
                                have H := HA.out
                                clear HA
                                simp only [spec_l16Read.l0] at H
                                by_cases c27 : x14_3 < (a3.size : Int)
                                · rw [if_pos c27] at H
                                  have c27b0 : decide (x14_3 < (a3.size : Int)) = true := decide_eq_true c27
                                  clear c27
                                  (first | rw [c27b0] | (simp only [i64_w, i32_w]; rw [c27b0]) | skip)
                                  by_cases c28 : x14_3 < (wrap64 (a4 + 4))
                                  · rw [if_pos c28] at H
                                    have c28b0 : decide (x14_3 < (wrap64 (a4 + 4))) = true := decide_eq_true c28
                                    clear c28
                                    by_cases c29 : 0 ≤ x14_3
                                    · rw [if_pos c29] at H
                                      have c29b0 : decide (0 ≤ x14_3) = true := decide_eq_true c29
                                      clear c29
                                      by_cases c31 : (bt a3 x14_3) ≥ 48
                                      · rw [if_pos c31] at H
                                        have c31b0 : decide (48 ≤ (bt a3 x14_3)) = true := decide_eq_true c31
                                        clear c31
                                        by_cases c33 : (bt a3 x14_3) ≤ 57
                                        · rw [if_pos c33] at H
                                          have c33b0 : decide ((bt a3 x14_3) ≤ 57) = true := decide_eq_true c33
                                          clear c33
                                          have H' := Aside0.mk H
                                          clear H
                                          have p30 : 0 ≤ (x14_3 : Int) := of_decide_eq_true (by first | (with_reducible assumption) | assumption)
                                          have q30 : x14_3 < (a3.size : Int) := of_decide_eq_true (by first | (with_reducible assumption) | assumption)
                                          have hx30 := bt_at a3 x14_3
                                          replace p30 := eq_true p30
                                          replace q30 := eq_true q30
                                          have p32 : 0 ≤ (x14_3 : Int) := of_decide_eq_true (by first | (with_reducible assumption) | assumption)
                                          have q32 : x14_3 < (a3.size : Int) := of_decide_eq_true (by first | (with_reducible assumption) | assumption)
                                          have hx32 := bt_at a3 x14_3
                                          replace p32 := eq_true p32
                                          replace q32 := eq_true q32
                                          as_aux_lemma =>
                                           go_wp2
                                           go_roundg k3
                                           case measure => have := HJ10.out; have := HJ22.out; have := HK3.out; omega
                                           case rel => exact ⟨(wrap64 (x14_3 + 1)), (by first | rfl | (simp; done) | (simp [*]; done)), H', ⟨by have := HJ10.out; have := HJ22.out; have := HK3.out; omega⟩, ⟨by repeat (first | (with_reducible first | exact HB.out | apply below_alloc | apply pw_below_drewN | apply below_drew1) | exact HB.out)⟩⟩
                                        · rw [if_neg c33] at H
                                          have c33b0 : decide ((bt a3 x14_3) ≤ 57) = false := decide_eq_false c33
                                          clear c33
                                          have H' := Aside0.mk H
                                          clear H
                                          have p30 : 0 ≤ (x14_3 : Int) := of_decide_eq_true (by first | (with_reducible assumption) | assumption)
                                          have q30 : x14_3 < (a3.size : Int) := of_decide_eq_true (by first | (with_reducible assumption) | assumption)
                                          have hx30 := bt_at a3 x14_3
                                          replace p30 := eq_true p30
                                          replace q30 := eq_true q30
                                          have p32 : 0 ≤ (x14_3 : Int) := of_decide_eq_true (by first | (with_reducible assumption) | assumption)
                                          have q32 : x14_3 < (a3.size : Int) := of_decide_eq_true (by first | (with_reducible assumption) | assumption)
                                          have hx32 := bt_at a3 x14_3
                                          replace p32 := eq_true p32
                                          replace q32 := eq_true q32
                                          as_aux_lemma =>
                                           go_wp2
                                           go_meet
                                           case rel => exact ⟨_, (x14_3), (by first | rfl | (simp; done) | (simp [*]; done)), H', ⟨by have := HJ10.out; have := HJ22.out; have := HK3.out; first | omega | exact Nat.le_refl _⟩, ⟨by repeat (first | (with_reducible first | exact HB.out | apply below_alloc | apply pw_below_drewN | apply below_drew1) | exact HB.out)⟩⟩
                                      · rw [if_neg c31] at H
                                        have c31b0 : decide (48 ≤ (bt a3 x14_3)) = false := decide_eq_false c31
                                        clear c31
                                        have H' := Aside0.mk H
                                        clear H
                                        have p30 : 0 ≤ (x14_3 : Int) := of_decide_eq_true (by first | (with_reducible assumption) | assumption)
                                        have q30 : x14_3 < (a3.size : Int) := of_decide_eq_true (by first | (with_reducible assumption) | assumption)
                                        have hx30 := bt_at a3 x14_3
                                        replace p30 := eq_true p30
                                        replace q30 := eq_true q30
                                        as_aux_lemma =>
                                         go_wp2
                                         go_meet
                                         case rel => exact ⟨_, (x14_3), (by first | rfl | (simp; done) | (simp [*]; done)), H', ⟨by have := HJ10.out; have := HJ22.out; have := HK3.out; first | omega | exact Nat.le_refl _⟩, ⟨by repeat (first | (with_reducible first | exact HB.out | apply below_alloc | apply pw_below_drewN | apply below_drew1) | exact HB.out)⟩⟩
                                    · rw [if_neg c29] at H
                                      exact absurd H (by simp)
                                  · rw [if_neg c28] at H
                                    have c28b0 : decide (x14_3 < (wrap64 (a4 + 4))) = false := decide_eq_false c28
                                    clear c28
                                    have H' := Aside0.mk H
                                    clear H
                                    as_aux_lemma =>
                                     go_wp2
                                     go_meet
                                     case rel => exact ⟨_, (x14_3), (by first | rfl | (simp; done) | (simp [*]; done)), H', ⟨by have := HJ10.out; have := HJ22.out; have := HK3.out; first | omega | exact Nat.le_refl _⟩, ⟨by repeat (first | (with_reducible first | exact HB.out | apply below_alloc | apply pw_below_drewN | apply below_drew1) | exact HB.out)⟩⟩
                                · rw [if_neg c27] at H
                                  have c27b0 : decide (x14_3 < (a3.size : Int)) = false := decide_eq_false c27
                                  clear c27
                                  (first | rw [c27b0] | (simp only [i64_w, i32_w]; rw [c27b0]) | skip)
                                  have H' := Aside0.mk H
                                  clear H
                                  as_aux_lemma =>
                                   go_wp2
                                   go_meet
                                   case rel => exact ⟨_, (x14_3), (by first | rfl | (simp; done) | (simp [*]; done)), H', ⟨by have := HJ10.out; have := HJ22.out; have := HK3.out; first | omega | exact Nat.le_refl _⟩, ⟨by repeat (first | (with_reducible first | exact HB.out | apply below_alloc | apply pw_below_drewN | apply below_drew1) | exact HB.out)⟩⟩
                        case rest =>
                         as_aux_lemma =>
                           clear HC26
                           try clear c1
                           try clear p1
                           try clear q1
                           try clear hx1
                           try clear qi1
                           try clear c2
                           try clear p2
                           try clear c3
                           try clear p3
                           try clear q3
                           try clear hx3
                           try clear c6
                           try clear c6b0
                           try clear p6
                           try clear c7
                           try clear c7b0
                           try clear c8
                           try clear c8b0
                           try clear p9
                           try clear q9
                           try clear hx9
                           try clear c10
                           try clear c10b0
                           try clear c10b1
                           try clear c12
                           try clear c12b0
                           try clear c13
                           try clear c14
                           try clear c14b0
                           try clear c15
                           try clear p15
                           try clear q15
                           try clear hx15
                           try clear qi15
                           try clear c16
                           try clear c16b0
                           try clear p16
                           try clear q16
                           try clear hx16
                           try clear qi16
                           try clear c17
                           try clear c17b0
                           try clear c18
                           try clear c18b0
                           try clear c18b1
                           try clear c19
                           try clear c19b0
                           try clear c19b1
                           try clear c20
                           try clear c20b0
                           try clear c20b1
                           try clear c21
                           try clear c21b0
                           try clear c21b1
                           try clear c22
                           try clear c22b0
                           try clear c22b1
                           try clear c24
                           try clear c24b0
                           try clear c24b1
                           try clear c25
                           try clear c27
                           try clear c27b0
                           try clear c28
                           try clear c28b0
                           try clear c29
                           try clear c29b0
                           try clear p30
                           try clear q30
                           try clear hx30
                           try clear c31
                           try clear c31b0
                           try clear p32
                           try clear q32
                           try clear hx32
                           try clear c33
                           try clear c33b0
                           try clear hx156_0
                           try clear hx157_0
                           try clear hx158_0
                           try clear hx159_0
                           try clear hx160_0
                           try clear hx161_0
                           try clear p1
                           try clear p15
                           try clear p156
                           try clear p157
                           try clear p158
                           try clear p159
                           try clear p16
                           try clear p160
                           try clear p161
                           try clear p2
                           try clear p30
                           try clear p32
                           try clear p6
                           try clear p9
                           try clear q1
                           try clear q15
                           try clear q156
                           try clear q157
                           try clear q158
                           try clear q159
                           try clear q16
                           try clear q160
                           try clear q161
                           try clear q30
                           try clear q32
                           try clear q9
                           obtain ⟨kq, x14_25, rfl, HA, HJ25, HB⟩ := hcut
                           cases kq with
                           | zero => exact absurd HA.out (by simp [spec_l16Read.j3])
                           | succ kj25 =>
                             have H := HA.out
                             clear HA
                             simp only [spec_l16Read.j3] at H
                             obtain ⟨ji34, hji34⟩ : ∃ j_ : Int, (wrap64 (a4 + 1)) = j_ := ⟨_, rfl⟩
                             replace H : (if 0 ≤ (ji34) then (if (ji34) ≤ x14_25 then (if x14_25 ≤ (a3.size : Int) then ((spec_ParseInt.f kj25 (a3.extract ((ji34) : Int).toNat (x14_25 : Int).toNat)).bind fun bt162 => (if bt162.2 = true then (if x14_25 ≥ (a3.size : Int) then (spec_l16Read.j4 kj25 a0 a1 l2 a3 a4 (bt a3 a4) x14_25 bt162.1 true) else (if 0 ≤ x14_25 then (if x14_25 < (a3.size : Int) then (spec_l16Read.j4 kj25 a0 a1 l2 a3 a4 (bt a3 a4) x14_25 bt162.1 ((bt a3 x14_25) != 40)) else (none)) else (none))) else (spec_l16Read.j4 kj25 a0 a1 l2 a3 a4 (bt a3 a4) x14_25 bt162.1 true))) else (none)) else (none)) else (none)) = some (r1, r2) := by first | (rw [hji34] at H; exact H) | (simp only [hji34] at H ⊢; exact H)
                             have hji34w : (IntKind.i64.wrap (a4 + 1)) = ji34 := (i64_w _).trans hji34
                             by_cases c35 : 0 ≤ (ji34)
                             · rw [if_pos c35] at H
                               have c35b0 := eq_true c35
                               have c35b1 : decide (0 ≤ (ji34)) = true := decide_eq_true c35
                               clear c35
                               by_cases c36 : (ji34) ≤ x14_25
                               · rw [if_pos c36] at H
                                 have c36b0 := eq_true c36
                                 have c36b1 : decide ((ji34) ≤ x14_25) = true := decide_eq_true c36
                                 clear c36
                                 by_cases c37 : x14_25 ≤ (a3.size : Int)
                                 · rw [if_pos c37] at H
                                   have c37b0 := eq_true c37
                                   have c37b1 : decide (x14_25 ≤ (a3.size : Int)) = true := decide_eq_true c37
                                   clear c37
                                   replace H := Option.bind_eq_some_iff.mp H
                                   obtain ⟨⟨t162, t163⟩, A380, H⟩ := H
                                   replace H : (if t163 = true then (if x14_25 ≥ (a3.size : Int) then (spec_l16Read.j4 kj25 a0 a1 l2 a3 a4 (bt a3 a4) x14_25 t162 true) else (if 0 ≤ x14_25 then (if x14_25 < (a3.size : Int) then (spec_l16Read.j4 kj25 a0 a1 l2 a3 a4 (bt a3 a4) x14_25 t162 ((bt a3 x14_25) != 40)) else (none)) else (none))) else (spec_l16Read.j4 kj25 a0 a1 l2 a3 a4 (bt a3 a4) x14_25 t162 true)) = some (r1, r2) := H
                                   have A38 := Aside0.mk A380
                                   clear A380
                                   have HC39 := Aside0.mk H
                                   clear H
                                   go_upto_region 17 with (first | ((with_reducible refine gate_callee (f := 50) rfl ?_); refine goesL_ (some 116) rfl rfl Tryd.func50 (by kernel_rfl) rfl #[.string (a3.extract ((ji34) : Int).toNat (x14_25 : Int).toNat)] rfl (by (try simp only [List.map_toArray, List.map_cons, List.map_nil]); first | done | (simp only [hji34]; rfl) | rfl | (simp only [List.length_drop, List.length_take]; rfl)) ?_; (with_reducible refine (spec_ParseInt.calls kj25 (a3.extract ((ji34) : Int).toNat (x14_25 : Int).toNat) t162 t163 _ A38.out).mono ?_); rintro e w40 ⟨rfl, hb⟩; refine ⟨_, rfl, ?_⟩; have n0_ := Aside0.mk (below_step (by repeat (first | (with_reducible first | exact HB.out | apply below_alloc | apply pw_below_drewN | apply below_drew1) | exact HB.out)) hb); clear HB; have HB := n0_; clear n0_; (try clear hb); (try clear hb2); (try clear hk); (try clear hi)))
                                   (try simp only [Act.put, List.setIfInBounds_toArray, List.set_cons_zero, List.set_cons_succ])
                                   go_cut [132] (fun v132 wc => ∃ (kq : Nat) (x132_38 : Bool), v132 = .bool x132_38 ∧ Aside0 (spec_l16Read.j4 kq a0 a1 l2 a3 a4 (bt a3 a4) x14_25 t162 x132_38 = some (r1, r2)) ∧ Aside0 (kq ≤ kj25) ∧ Aside0 (Below w.heap.size w wc))
                                   case first =>
                                    as_aux_lemma =>
                                      have H := HC39.out
                                      clear HC39
                                      by_cases c41 : t163 = true
                                      · subst c41
                                        have H1 : (if x14_25 ≥ (a3.size : Int) then (spec_l16Read.j4 kj25 a0 a1 l2 a3 a4 (bt a3 a4) x14_25 t162 true) else (if 0 ≤ x14_25 then (if x14_25 < (a3.size : Int) then (spec_l16Read.j4 kj25 a0 a1 l2 a3 a4 (bt a3 a4) x14_25 t162 ((bt a3 x14_25) != 40)) else (none)) else (none))) = some (r1, r2) := by rw [if_pos rfl] at H; exact H
                                        clear H
                                        have H := H1
                                        clear H1
                                        by_cases c42 : x14_25 ≥ (a3.size : Int)
                                        · rw [if_pos c42] at H
                                          have c42b0 : decide ((a3.size : Int) ≤ x14_25) = true := decide_eq_true c42
                                          clear c42
                                          (first | rw [c42b0] | (simp only [i64_w, i32_w]; rw [c42b0]) | skip)
                                          have H' := Aside0.mk H
                                          clear H
                                          as_aux_lemma =>
                                           go_wp2
                                           go_meet
                                           case rel => exact ⟨_, (true), (by first | rfl | (simp; done) | (simp [*]; done)), H', ⟨by have := HJ10.out; have := HJ22.out; have := HJ25.out; first | omega | exact Nat.le_refl _⟩, ⟨by repeat (first | (with_reducible first | exact HB.out | apply below_alloc | apply pw_below_drewN | apply below_drew1) | exact HB.out)⟩⟩
                                        · rw [if_neg c42] at H
                                          have c42b0 : decide ((a3.size : Int) ≤ x14_25) = false := decide_eq_false c42
                                          clear c42
                                          (first | rw [c42b0] | (simp only [i64_w, i32_w]; rw [c42b0]) | skip)
                                          by_cases c43 : 0 ≤ x14_25
                                          · rw [if_pos c43] at H
                                            have c43b0 : decide (0 ≤ x14_25) = true := decide_eq_true c43
                                            clear c43
                                            by_cases c44 : x14_25 < (a3.size : Int)
                                            · rw [if_pos c44] at H
                                              have c44b0 : decide (x14_25 < (a3.size : Int)) = true := decide_eq_true c44
                                              clear c44
                                              have H' := Aside0.mk H
                                              clear H
                                              have p45 : 0 ≤ (x14_25 : Int) := of_decide_eq_true (by first | (with_reducible assumption) | assumption)
                                              have q45 : x14_25 < (a3.size : Int) := of_decide_eq_true (by first | (with_reducible assumption) | assumption)
                                              have hx45 := bt_at a3 x14_25
                                              replace p45 := eq_true p45
                                              replace q45 := eq_true q45
                                              as_aux_lemma =>
                                               go_wp2
                                               go_meet
                                               case rel => exact ⟨_, (((bt a3 x14_25) != 40)), (by first | rfl | (simp; done) | (simp [*]; done)), H', ⟨by have := HJ10.out; have := HJ22.out; have := HJ25.out; first | omega | exact Nat.le_refl _⟩, ⟨by repeat (first | (with_reducible first | exact HB.out | apply below_alloc | apply pw_below_drewN | apply below_drew1) | exact HB.out)⟩⟩
                                            · rw [if_neg c44] at H
                                              exact absurd H (by simp)
                                          · rw [if_neg c43] at H
                                            exact absurd H (by simp)
                                      · replace c41 := Bool.eq_false_iff.mpr c41
                                        subst c41
                                        have H1 : (spec_l16Read.j4 kj25 a0 a1 l2 a3 a4 (bt a3 a4) x14_25 t162 true) = some (r1, r2) := by rw [if_neg (show ¬ (false = true) by decide)] at H; exact H
                                        clear H
                                        have H := H1
                                        clear H1
                                        have H' := Aside0.mk H
                                        clear H
                                        as_aux_lemma =>
                                         go_wp2
                                         go_meet
                                         case rel => exact ⟨_, (true), (by first | rfl | (simp; done) | (simp [*]; done)), H', ⟨by have := HJ10.out; have := HJ22.out; have := HJ25.out; first | omega | exact Nat.le_refl _⟩, ⟨by repeat (first | (with_reducible first | exact HB.out | apply below_alloc | apply pw_below_drewN | apply below_drew1) | exact HB.out)⟩⟩
                                   case rest =>
                                    as_aux_lemma =>
                                      clear HC39
                                      try clear c1
                                      try clear p1
                                      try clear q1
                                      try clear hx1
                                      try clear qi1
                                      try clear c2
                                      try clear p2
                                      try clear c3
                                      try clear p3
                                      try clear q3
                                      try clear hx3
                                      try clear c4
                                      try clear p4
                                      try clear q4
                                      try clear hx4
                                      try clear c5
                                      try clear c6
                                      try clear c6b0
                                      try clear p6
                                      try clear c7
                                      try clear c7b0
                                      try clear c8
                                      try clear c8b0
                                      try clear p9
                                      try clear q9
                                      try clear hx9
                                      try clear c10
                                      try clear c10b0
                                      try clear c10b1
                                      try clear c12
                                      try clear c12b0
                                      try clear c13
                                      try clear c14
                                      try clear c14b0
                                      try clear c15
                                      try clear p15
                                      try clear q15
                                      try clear hx15
                                      try clear qi15
                                      try clear c16
                                      try clear c16b0
                                      try clear p16
                                      try clear q16
                                      try clear hx16
                                      try clear qi16
                                      try clear c17
                                      try clear c17b0
                                      try clear c18
                                      try clear c18b0
                                      try clear c18b1
                                      try clear c19
                                      try clear c19b0
                                      try clear c19b1
                                      try clear c20
                                      try clear c20b0
                                      try clear c20b1
                                      try clear c21
                                      try clear c21b0
                                      try clear c21b1
                                      try clear c22
                                      try clear c22b0
                                      try clear c22b1
                                      try clear c24
                                      try clear c24b0
                                      try clear c24b1
                                      try clear c25
                                      try clear c27
                                      try clear c27b0
                                      try clear c28
                                      try clear c28b0
                                      try clear c29
                                      try clear c29b0
                                      try clear p30
                                      try clear q30
                                      try clear hx30
                                      try clear c31
                                      try clear c31b0
                                      try clear p32
                                      try clear q32
                                      try clear hx32
                                      try clear c33
                                      try clear c33b0
                                      try clear c35
                                      try clear c35b0
                                      try clear c35b1
                                      try clear c36
                                      try clear c36b0
                                      try clear c36b1
                                      try clear c37
                                      try clear c37b0
                                      try clear c37b1
                                      try clear c41
                                      try clear c42
                                      try clear c42b0
                                      try clear c43
                                      try clear c43b0
                                      try clear c44
                                      try clear c44b0
                                      try clear p45
                                      try clear q45
                                      try clear hx45
                                      try clear hx156_0
                                      try clear hx157_0
                                      try clear hx158_0
                                      try clear hx159_0
                                      try clear hx160_0
                                      try clear hx161_0
                                      try clear p1
                                      try clear p15
                                      try clear p156
                                      try clear p157
                                      try clear p158
                                      try clear p159
                                      try clear p16
                                      try clear p160
                                      try clear p161
                                      try clear p2
                                      try clear p3
                                      try clear p30
                                      try clear p32
                                      try clear p45
                                      try clear p6
                                      try clear p9
                                      try clear q1
                                      try clear q15
                                      try clear q156
                                      try clear q157
                                      try clear q158
                                      try clear q159
                                      try clear q16
                                      try clear q160
                                      try clear q161
                                      try clear q3
                                      try clear q30
                                      try clear q32
                                      try clear q45
                                      try clear q9
                                      obtain ⟨kq, x132_38, rfl, HA, HJ38, HB⟩ := hcut
                                      cases kq with
                                      | zero => exact absurd HA.out (by simp [spec_l16Read.j4])
                                      | succ kj38 =>
                                        have H := HA.out
                                        clear HA
                                        simp only [spec_l16Read.j4] at H
                                        by_cases c46 : x132_38 = true
                                        · subst c46
                                          have H1 : (some ((-1), a4)) = some (r1, r2) := by rw [if_pos rfl] at H; exact H
                                          clear H
                                          have H := H1
                                          clear H1
                                          simp only [Option.some.injEq, Prod.mk.injEq] at H
                                          obtain ⟨rfl, rfl⟩ := H
                                          as_aux_lemma =>
                                           go_wp2
                                           go_ret2
                                           exact ⟨by first | rfl | (simp [errW_none, errW_some] <;> rfl) | (simp only [← hji34]; first | rfl | (simp [errW_none, errW_some] <;> rfl)) | (simp [*, errW_none, errW_some] <;> rfl), by repeat (first | (with_reducible first | exact HB.out | apply below_alloc | apply pw_below_drewN | apply below_drew1) | exact HB.out)⟩
                                        · replace c46 := Bool.eq_false_iff.mpr c46
                                          subst c46
                                          have H1 : (if (bt a3 a4) = 104 then (spec_l16Read.j5 kj38 a0 a1 l2 a3 a4 (bt a3 a4) x14_25 t162 a1) else (spec_l16Read.j5 kj38 a0 a1 l2 a3 a4 (bt a3 a4) x14_25 t162 a0)) = some (r1, r2) := by rw [if_neg (show ¬ (false = true) by decide)] at H; exact H
                                          clear H
                                          have H := H1
                                          clear H1
                                          have HC47 := Aside0.mk H
                                          clear H
                                          go_upto_if 136 with (fail)
                                          go_cut [17] (fun v17 wc => ∃ (kq : Nat) (x17_46 : Int), v17 = .int .i64 x17_46 ∧ Aside0 (spec_l16Read.j5 kq a0 a1 l2 a3 a4 (bt a3 a4) x14_25 t162 x17_46 = some (r1, r2)) ∧ Aside0 (kq ≤ kj38) ∧ Aside0 (Below w.heap.size w wc))
                                          case first =>
                                           as_aux_lemma =>
                                             have H := HC47.out
                                             clear HC47
                                             by_cases c48 : (bt a3 a4) = 104
                                             · rw [if_pos c48] at H
                                               have c48b0 : ((bt a3 a4) == 104) = true := beq_iff_eq.mpr c48
                                               have c48b1 : ((bt a3 a4) != 104) = false := bne_eq_false_iff_eq.mpr c48
                                               clear c48
                                               (first | rw [c48b0] | (simp only [i64_w, i32_w]; rw [c48b0]) | skip)
                                               have H' := Aside0.mk H
                                               clear H
                                               as_aux_lemma =>
                                                go_wp2
                                                go_meet
                                                case rel => exact ⟨_, (a1), (by first | rfl | (simp; done) | (simp [*]; done)), H', ⟨by have := HJ10.out; have := HJ22.out; have := HJ25.out; have := HJ38.out; first | omega | exact Nat.le_refl _⟩, ⟨by repeat (first | (with_reducible first | exact HB.out | apply below_alloc | apply pw_below_drewN | apply below_drew1) | exact HB.out)⟩⟩
                                             · rw [if_neg c48] at H
                                               have c48b0 : ((bt a3 a4) == 104) = false := beq_eq_false_iff_ne.mpr c48
                                               have c48b1 : ((bt a3 a4) != 104) = true := bne_iff_ne.mpr c48
                                               (first | rw [c48b0] | (simp only [i64_w, i32_w]; rw [c48b0]) | skip)
                                               have H' := Aside0.mk H
                                               clear H
                                               as_aux_lemma =>
                                                go_wp2
                                                go_meet
                                                case rel => exact ⟨_, (a0), (by first | rfl | (simp; done) | (simp [*]; done)), H', ⟨by have := HJ10.out; have := HJ22.out; have := HJ25.out; have := HJ38.out; first | omega | exact Nat.le_refl _⟩, ⟨by repeat (first | (with_reducible first | exact HB.out | apply below_alloc | apply pw_below_drewN | apply below_drew1) | exact HB.out)⟩⟩
                                          case rest =>
                                           as_aux_lemma =>
                                             clear HC47
                                             try clear c1
                                             try clear p1
                                             try clear q1
                                             try clear hx1
                                             try clear qi1
                                             try clear c2
                                             try clear p2
                                             try clear c3
                                             try clear p3
                                             try clear q3
                                             try clear hx3
                                             try clear c4
                                             try clear p4
                                             try clear q4
                                             try clear hx4
                                             try clear c5
                                             try clear c6
                                             try clear c6b0
                                             try clear p6
                                             try clear c7
                                             try clear c7b0
                                             try clear c8
                                             try clear c8b0
                                             try clear p9
                                             try clear q9
                                             try clear hx9
                                             try clear c10
                                             try clear c10b0
                                             try clear c10b1
                                             try clear c12
                                             try clear c12b0
                                             try clear c13
                                             try clear c14
                                             try clear c14b0
                                             try clear c15
                                             try clear p15
                                             try clear q15
                                             try clear hx15
                                             try clear qi15
                                             try clear c16
                                             try clear c16b0
                                             try clear p16
                                             try clear q16
                                             try clear hx16
                                             try clear qi16
                                             try clear c17
                                             try clear c17b0
                                             try clear c18
                                             try clear c18b0
                                             try clear c18b1
                                             try clear c19
                                             try clear c19b0
                                             try clear c19b1
                                             try clear c20
                                             try clear c20b0
                                             try clear c20b1
                                             try clear c21
                                             try clear c21b0
                                             try clear c21b1
                                             try clear c22
                                             try clear c22b0
                                             try clear c22b1
                                             try clear c24
                                             try clear c24b0
                                             try clear c24b1
                                             try clear c25
                                             try clear c27
                                             try clear c27b0
                                             try clear c28
                                             try clear c28b0
                                             try clear c29
                                             try clear c29b0
                                             try clear p30
                                             try clear q30
                                             try clear hx30
                                             try clear c31
                                             try clear c31b0
                                             try clear p32
                                             try clear q32
                                             try clear hx32
                                             try clear c33
                                             try clear c33b0
                                             try clear c35
                                             try clear c35b0
                                             try clear c35b1
                                             try clear c36
                                             try clear c36b0
                                             try clear c36b1
                                             try clear c37
                                             try clear c37b0
                                             try clear c37b1
                                             try clear c41
                                             try clear c42
                                             try clear c42b0
                                             try clear c43
                                             try clear c43b0
                                             try clear c44
                                             try clear c44b0
                                             try clear p45
                                             try clear q45
                                             try clear hx45
                                             try clear c46
                                             try clear c48
                                             try clear c48b0
                                             try clear c48b1
                                             try clear hx156_0
                                             try clear hx157_0
                                             try clear hx158_0
                                             try clear hx159_0
                                             try clear hx160_0
                                             try clear hx161_0
                                             try clear p1
                                             try clear p15
                                             try clear p156
                                             try clear p157
                                             try clear p158
                                             try clear p159
                                             try clear p16
                                             try clear p160
                                             try clear p161
                                             try clear p2
                                             try clear p3
                                             try clear p30
                                             try clear p32
                                             try clear p4
                                             try clear p45
                                             try clear p6
                                             try clear p9
                                             try clear q1
                                             try clear q15
                                             try clear q156
                                             try clear q157
                                             try clear q158
                                             try clear q159
                                             try clear q16
                                             try clear q160
                                             try clear q161
                                             try clear q3
                                             try clear q30
                                             try clear q32
                                             try clear q4
                                             try clear q45
                                             try clear q9
                                             obtain ⟨kq, x17_46, rfl, HA, HJ46, HB⟩ := hcut
                                             cases kq with
                                             | zero => exact absurd HA.out (by simp [spec_l16Read.j5])
                                             | succ kj46 =>
                                               have H := HA.out
                                               clear HA
                                               simp only [spec_l16Read.j5] at H
                                               replace H := Option.bind_eq_some_iff.mp H
                                               obtain ⟨t164, A490, H⟩ := H
                                               replace H : (if t164 = true then (if (bt a3 a4) = 118 then ((spec_l16Read.f kj46 t162 a1 l2 a3 (wrap64 (x14_25 + 1))).bind fun bt165 => (spec_l16Read.j6 kj46 a0 a1 l2 a3 a4 (bt a3 a4) (wrap64 (x17_46 - t162)) bt165.1 bt165.2)) else ((spec_l16Read.f kj46 a0 t162 l2 a3 (wrap64 (x14_25 + 1))).bind fun bt167 => (spec_l16Read.j6 kj46 a0 a1 l2 a3 a4 (bt a3 a4) (wrap64 (x17_46 - t162)) bt167.1 bt167.2))) else (some ((-1), a4))) = some (r1, r2) := H
                                               have A49 := Aside0.mk A490
                                               clear A490
                                               by_cases c50 : t164 = true
                                               · subst c50
                                                 have H1 : (if (bt a3 a4) = 118 then ((spec_l16Read.f kj46 t162 a1 l2 a3 (wrap64 (x14_25 + 1))).bind fun bt165 => (spec_l16Read.j6 kj46 a0 a1 l2 a3 a4 (bt a3 a4) (wrap64 (x17_46 - t162)) bt165.1 bt165.2)) else ((spec_l16Read.f kj46 a0 t162 l2 a3 (wrap64 (x14_25 + 1))).bind fun bt167 => (spec_l16Read.j6 kj46 a0 a1 l2 a3 a4 (bt a3 a4) (wrap64 (x17_46 - t162)) bt167.1 bt167.2))) = some (r1, r2) := by rw [if_pos rfl] at H; exact H
                                                 clear H
                                                 have H := H1
                                                 clear H1
                                                 have HC51 := Aside0.mk H
                                                 clear H
                                                 go_upto_if 151 with (first | ((with_reducible refine gate_callee (f := 47) rfl ?_); refine goesL_ (some 141) rfl rfl Tryd.func47 (by kernel_rfl) rfl #[.int .i64 t162, .int .i64 1, .int .i64 (wrap64 (x17_46 - 1))] rfl (by (try simp only [List.map_toArray, List.map_cons, List.map_nil]); first | done | rfl | (simp only [List.length_drop, List.length_take]; rfl)) ?_; (with_reducible refine (spec_l01In.calls t162 1 (wrap64 (x17_46 - 1)) true _ A49.out).mono ?_); rintro e w' ⟨rfl, ⟨nd, rfl⟩⟩; refine ⟨_, rfl, ?_⟩))
                                                 (try simp only [Act.put, List.setIfInBounds_toArray, List.set_cons_zero, List.set_cons_succ])
                                                 go_cut [20, 22] (fun v20 v22 wc => ∃ (kq : Nat) (x20_50 : Int) (x22_50 : Int), v20 = .int .i64 x20_50 ∧ v22 = .int .i64 x22_50 ∧ Aside0 (spec_l16Read.j6 kq a0 a1 l2 a3 a4 (bt a3 a4) (wrap64 (x17_46 - t162)) x20_50 x22_50 = some (r1, r2)) ∧ Aside0 (kq ≤ kj46) ∧ Aside0 (Below w.heap.size w wc))
                                                 case first =>
                                                  as_aux_lemma =>
                                                    have H := HC51.out
                                                    clear HC51
                                                    by_cases c52 : (bt a3 a4) = 118
                                                    · rw [if_pos c52] at H
                                                      have c52b0 : ((bt a3 a4) == 118) = true := beq_iff_eq.mpr c52
                                                      have c52b1 : ((bt a3 a4) != 118) = false := bne_eq_false_iff_eq.mpr c52
                                                      clear c52
                                                      (first | rw [c52b0] | (simp only [i64_w, i32_w]; rw [c52b0]) | skip)
                                                      replace H := Option.bind_eq_some_iff.mp H
                                                      obtain ⟨⟨t165, t166⟩, A530, H⟩ := H
                                                      replace H : (spec_l16Read.j6 kj46 a0 a1 l2 a3 a4 (bt a3 a4) (wrap64 (x17_46 - t162)) t165 t166) = some (r1, r2) := H
                                                      have A53 := Aside0.mk A530
                                                      clear A530
                                                      have H' := Aside0.mk H
                                                      clear H
                                                      as_aux_lemma =>
                                                       go_wp2_with (first | ((with_reducible refine gate_callee (f := 38) rfl ?_); refine goesL_ (some 158) rfl rfl Tryd.func38 (by kernel_rfl) rfl #[.int .i64 t162, .int .i64 a1, .slice A2 l2.length c2, .string a3, .int .i64 (wrap64 (x14_25 + 1))] rfl (by (try simp only [List.map_toArray, List.map_cons, List.map_nil]); first | done | rfl | (simp only [List.length_drop, List.length_take]; rfl)) ?_; (with_reducible refine (ih kj46 (by have := HJ10.out; have := HJ22.out; have := HJ25.out; have := HJ38.out; have := HJ46.out; omega) t162 a1 _ _ l2 a3 (wrap64 (x14_25 + 1)) t165 t166 _ ?side1 ?side2 A53.out).mono ?_); (case side1 => repeat (first | exact (Kd.C_below HR2.out HB.out) | (with_reducible refine Kd.C_alloc ?_ _) | (with_reducible refine Kd.C_drewN ?_ _) | (with_reducible refine Kd.C_drew ?_))); (case side2 => exact HC2.out); rintro e w54 ⟨rfl, hb⟩; refine ⟨_, rfl, ?_⟩; have n0_ := Aside0.mk (below_step (by repeat (first | (with_reducible first | exact HB.out | apply below_alloc | apply pw_below_drewN | apply below_drew1) | exact HB.out)) hb); clear HB; have HB := n0_; clear n0_; (try clear hb); (try clear hb2); (try clear hk); (try clear hi)))
                                                       go_meet
                                                       case rel => exact ⟨_, (t165), (t166), (by first | rfl | (simp; done) | (simp [*]; done)), (by first | rfl | (simp; done) | (simp [*]; done)), H', ⟨by have := HJ10.out; have := HJ22.out; have := HJ25.out; have := HJ38.out; have := HJ46.out; first | omega | exact Nat.le_refl _⟩, ⟨by repeat (first | (with_reducible first | exact HB.out | apply below_alloc | apply pw_below_drewN | apply below_drew1) | exact HB.out)⟩⟩
                                                    · rw [if_neg c52] at H
                                                      have c52b0 : ((bt a3 a4) == 118) = false := beq_eq_false_iff_ne.mpr c52
                                                      have c52b1 : ((bt a3 a4) != 118) = true := bne_iff_ne.mpr c52
                                                      (first | rw [c52b0] | (simp only [i64_w, i32_w]; rw [c52b0]) | skip)
                                                      replace H := Option.bind_eq_some_iff.mp H
                                                      obtain ⟨⟨t167, t168⟩, A550, H⟩ := H
                                                      replace H : (spec_l16Read.j6 kj46 a0 a1 l2 a3 a4 (bt a3 a4) (wrap64 (x17_46 - t162)) t167 t168) = some (r1, r2) := H
                                                      have A55 := Aside0.mk A550
                                                      clear A550
                                                      have H' := Aside0.mk H
                                                      clear H
                                                      as_aux_lemma =>
                                                       go_wp2_with (first | ((with_reducible refine gate_callee (f := 38) rfl ?_); refine goesL_ (some 167) rfl rfl Tryd.func38 (by kernel_rfl) rfl #[.int .i64 a0, .int .i64 t162, .slice A2 l2.length c2, .string a3, .int .i64 (wrap64 (x14_25 + 1))] rfl (by (try simp only [List.map_toArray, List.map_cons, List.map_nil]); first | done | rfl | (simp only [List.length_drop, List.length_take]; rfl)) ?_; (with_reducible refine (ih kj46 (by have := HJ10.out; have := HJ22.out; have := HJ25.out; have := HJ38.out; have := HJ46.out; omega) a0 t162 _ _ l2 a3 (wrap64 (x14_25 + 1)) t167 t168 _ ?side1 ?side2 A55.out).mono ?_); (case side1 => repeat (first | exact (Kd.C_below HR2.out HB.out) | (with_reducible refine Kd.C_alloc ?_ _) | (with_reducible refine Kd.C_drewN ?_ _) | (with_reducible refine Kd.C_drew ?_))); (case side2 => exact HC2.out); rintro e w56 ⟨rfl, hb⟩; refine ⟨_, rfl, ?_⟩; have n0_ := Aside0.mk (below_step (by repeat (first | (with_reducible first | exact HB.out | apply below_alloc | apply pw_below_drewN | apply below_drew1) | exact HB.out)) hb); clear HB; have HB := n0_; clear n0_; (try clear hb); (try clear hb2); (try clear hk); (try clear hi)))
                                                       go_meet
                                                       case rel => exact ⟨_, (t167), (t168), (by first | rfl | (simp; done) | (simp [*]; done)), (by first | rfl | (simp; done) | (simp [*]; done)), H', ⟨by have := HJ10.out; have := HJ22.out; have := HJ25.out; have := HJ38.out; have := HJ46.out; first | omega | exact Nat.le_refl _⟩, ⟨by repeat (first | (with_reducible first | exact HB.out | apply below_alloc | apply pw_below_drewN | apply below_drew1) | exact HB.out)⟩⟩
                                                 case rest =>
                                                  as_aux_lemma =>
                                                    clear HC51
                                                    try clear c1
                                                    try clear p1
                                                    try clear q1
                                                    try clear hx1
                                                    try clear qi1
                                                    try clear c2
                                                    try clear p2
                                                    try clear c3
                                                    try clear p3
                                                    try clear q3
                                                    try clear hx3
                                                    try clear c4
                                                    try clear p4
                                                    try clear q4
                                                    try clear hx4
                                                    try clear c5
                                                    try clear c6
                                                    try clear c6b0
                                                    try clear p6
                                                    try clear c7
                                                    try clear c7b0
                                                    try clear c8
                                                    try clear c8b0
                                                    try clear p9
                                                    try clear q9
                                                    try clear hx9
                                                    try clear c10
                                                    try clear c10b0
                                                    try clear c10b1
                                                    try clear c12
                                                    try clear c12b0
                                                    try clear c13
                                                    try clear c14
                                                    try clear c14b0
                                                    try clear c15
                                                    try clear p15
                                                    try clear q15
                                                    try clear hx15
                                                    try clear qi15
                                                    try clear c16
                                                    try clear c16b0
                                                    try clear p16
                                                    try clear q16
                                                    try clear hx16
                                                    try clear qi16
                                                    try clear c17
                                                    try clear c17b0
                                                    try clear c18
                                                    try clear c18b0
                                                    try clear c18b1
                                                    try clear c19
                                                    try clear c19b0
                                                    try clear c19b1
                                                    try clear c20
                                                    try clear c20b0
                                                    try clear c20b1
                                                    try clear c21
                                                    try clear c21b0
                                                    try clear c21b1
                                                    try clear c22
                                                    try clear c22b0
                                                    try clear c22b1
                                                    try clear c24
                                                    try clear c24b0
                                                    try clear c24b1
                                                    try clear c25
                                                    try clear c27
                                                    try clear c27b0
                                                    try clear c28
                                                    try clear c28b0
                                                    try clear c29
                                                    try clear c29b0
                                                    try clear p30
                                                    try clear q30
                                                    try clear hx30
                                                    try clear c31
                                                    try clear c31b0
                                                    try clear p32
                                                    try clear q32
                                                    try clear hx32
                                                    try clear c33
                                                    try clear c33b0
                                                    try clear c35
                                                    try clear c35b0
                                                    try clear c35b1
                                                    try clear c36
                                                    try clear c36b0
                                                    try clear c36b1
                                                    try clear c37
                                                    try clear c37b0
                                                    try clear c37b1
                                                    try clear c38
                                                    try clear c41
                                                    try clear c42
                                                    try clear c42b0
                                                    try clear c43
                                                    try clear c43b0
                                                    try clear c44
                                                    try clear c44b0
                                                    try clear p45
                                                    try clear q45
                                                    try clear hx45
                                                    try clear c46
                                                    try clear c47
                                                    try clear c48
                                                    try clear c48b0
                                                    try clear c48b1
                                                    try clear c50
                                                    try clear c52
                                                    try clear c52b0
                                                    try clear c52b1
                                                    try clear hx156_0
                                                    try clear hx157_0
                                                    try clear hx158_0
                                                    try clear hx159_0
                                                    try clear hx160_0
                                                    try clear hx161_0
                                                    try clear p1
                                                    try clear p15
                                                    try clear p156
                                                    try clear p157
                                                    try clear p158
                                                    try clear p159
                                                    try clear p16
                                                    try clear p160
                                                    try clear p161
                                                    try clear p2
                                                    try clear p3
                                                    try clear p30
                                                    try clear p32
                                                    try clear p4
                                                    try clear p45
                                                    try clear p6
                                                    try clear p9
                                                    try clear q1
                                                    try clear q15
                                                    try clear q156
                                                    try clear q157
                                                    try clear q158
                                                    try clear q159
                                                    try clear q16
                                                    try clear q160
                                                    try clear q161
                                                    try clear q3
                                                    try clear q30
                                                    try clear q32
                                                    try clear q4
                                                    try clear q45
                                                    try clear q9
                                                    obtain ⟨kq, x20_50, x22_50, rfl, rfl, HA, HJ50, HB⟩ := hcut
                                                    cases kq with
                                                    | zero => exact absurd HA.out (by simp [spec_l16Read.j6])
                                                    | succ kj50 =>
                                                      have H := HA.out
                                                      clear HA
                                                      simp only [spec_l16Read.j6] at H
                                                      by_cases c57 : x20_50 < 0
                                                      · rw [if_pos c57] at H
                                                        have c57b0 : decide (x20_50 < 0) = true := decide_eq_true c57
                                                        clear c57
                                                        simp only [Option.some.injEq, Prod.mk.injEq] at H
                                                        obtain ⟨rfl, rfl⟩ := H
                                                        as_aux_lemma =>
                                                         go_wp2
                                                         go_ret2
                                                         exact ⟨by first | rfl | (simp [errW_none, errW_some] <;> rfl) | (simp only [← hji34]; first | rfl | (simp [errW_none, errW_some] <;> rfl)) | (simp [*, errW_none, errW_some] <;> rfl), by repeat (first | (with_reducible first | exact HB.out | apply below_alloc | apply pw_below_drewN | apply below_drew1) | exact HB.out)⟩
                                                      · rw [if_neg c57] at H
                                                        have c57b0 : decide (x20_50 < 0) = false := decide_eq_false c57
                                                        clear c57
                                                        by_cases c58 : (bt a3 a4) = 118
                                                        · rw [if_pos c58] at H
                                                          have c58b0 : ((bt a3 a4) == 118) = true := beq_iff_eq.mpr c58
                                                          have c58b1 : ((bt a3 a4) != 118) = false := bne_eq_false_iff_eq.mpr c58
                                                          clear c58
                                                          replace H := Option.bind_eq_some_iff.mp H
                                                          obtain ⟨⟨t169, t170⟩, A590, H⟩ := H
                                                          replace H : (if t169 < 0 then (some ((-1), a4)) else (if t170 ≥ (a3.size : Int) then (some ((-1), a4)) else (if 0 ≤ t170 then (if t170 < (a3.size : Int) then (if (bt a3 t170) = 41 then (some (wrap64 (x20_50 + t169), wrap64 (t170 + 1))) else (some ((-1), a4))) else (none)) else (none)))) = some (r1, r2) := H
                                                          have A59 := Aside0.mk A590
                                                          clear A590
                                                          by_cases c60 : t169 < 0
                                                          · rw [if_pos c60] at H
                                                            have c60b0 : decide (t169 < 0) = true := decide_eq_true c60
                                                            clear c60
                                                            simp only [Option.some.injEq, Prod.mk.injEq] at H
                                                            obtain ⟨rfl, rfl⟩ := H
                                                            as_aux_lemma =>
                                                             go_wp2_with (first | ((with_reducible refine gate_callee (f := 38) rfl ?_); refine goesL_ (some 181) rfl rfl Tryd.func38 (by kernel_rfl) rfl #[.int .i64 (wrap64 (x17_46 - t162)), .int .i64 a1, .slice A2 l2.length c2, .string a3, .int .i64 x22_50] rfl (by (try simp only [List.map_toArray, List.map_cons, List.map_nil]); first | done | rfl | (simp only [List.length_drop, List.length_take]; rfl)) ?_; (with_reducible refine (ih kj50 (by have := HJ10.out; have := HJ22.out; have := HJ25.out; have := HJ38.out; have := HJ46.out; have := HJ50.out; omega) (wrap64 (x17_46 - t162)) a1 _ _ l2 a3 x22_50 t169 t170 _ ?side1 ?side2 A59.out).mono ?_); (case side1 => repeat (first | exact (Kd.C_below HR2.out HB.out) | (with_reducible refine Kd.C_alloc ?_ _) | (with_reducible refine Kd.C_drewN ?_ _) | (with_reducible refine Kd.C_drew ?_))); (case side2 => exact HC2.out); rintro e w61 ⟨rfl, hb⟩; refine ⟨_, rfl, ?_⟩; have n0_ := Aside0.mk (below_step (by repeat (first | (with_reducible first | exact HB.out | apply below_alloc | apply pw_below_drewN | apply below_drew1) | exact HB.out)) hb); clear HB; have HB := n0_; clear n0_; (try clear hb); (try clear hb2); (try clear hk); (try clear hi)))
                                                             go_ret2
                                                             exact ⟨by first | rfl | (simp [errW_none, errW_some] <;> rfl) | (simp only [← hji34]; first | rfl | (simp [errW_none, errW_some] <;> rfl)) | (simp [*, errW_none, errW_some] <;> rfl), by repeat (first | (with_reducible first | exact HB.out | apply below_alloc | apply pw_below_drewN | apply below_drew1) | exact HB.out)⟩
                                                          · rw [if_neg c60] at H
                                                            have c60b0 : decide (t169 < 0) = false := decide_eq_false c60
                                                            clear c60
                                                            by_cases c62 : t170 ≥ (a3.size : Int)
                                                            · rw [if_pos c62] at H
                                                              have c62b0 : decide ((a3.size : Int) ≤ t170) = true := decide_eq_true c62
                                                              clear c62
                                                              simp only [Option.some.injEq, Prod.mk.injEq] at H
                                                              obtain ⟨rfl, rfl⟩ := H
                                                              as_aux_lemma =>
                                                               go_wp2_with (first | ((with_reducible refine gate_callee (f := 38) rfl ?_); refine goesL_ (some 181) rfl rfl Tryd.func38 (by kernel_rfl) rfl #[.int .i64 (wrap64 (x17_46 - t162)), .int .i64 a1, .slice A2 l2.length c2, .string a3, .int .i64 x22_50] rfl (by (try simp only [List.map_toArray, List.map_cons, List.map_nil]); first | done | rfl | (simp only [List.length_drop, List.length_take]; rfl)) ?_; (with_reducible refine (ih kj50 (by have := HJ10.out; have := HJ22.out; have := HJ25.out; have := HJ38.out; have := HJ46.out; have := HJ50.out; omega) (wrap64 (x17_46 - t162)) a1 _ _ l2 a3 x22_50 t169 t170 _ ?side1 ?side2 A59.out).mono ?_); (case side1 => repeat (first | exact (Kd.C_below HR2.out HB.out) | (with_reducible refine Kd.C_alloc ?_ _) | (with_reducible refine Kd.C_drewN ?_ _) | (with_reducible refine Kd.C_drew ?_))); (case side2 => exact HC2.out); rintro e w63 ⟨rfl, hb⟩; refine ⟨_, rfl, ?_⟩; have n0_ := Aside0.mk (below_step (by repeat (first | (with_reducible first | exact HB.out | apply below_alloc | apply pw_below_drewN | apply below_drew1) | exact HB.out)) hb); clear HB; have HB := n0_; clear n0_; (try clear hb); (try clear hb2); (try clear hk); (try clear hi)))
                                                               go_ret2
                                                               exact ⟨by first | rfl | (simp [errW_none, errW_some] <;> rfl) | (simp only [← hji34]; first | rfl | (simp [errW_none, errW_some] <;> rfl)) | (simp [*, errW_none, errW_some] <;> rfl), by repeat (first | (with_reducible first | exact HB.out | apply below_alloc | apply pw_below_drewN | apply below_drew1) | exact HB.out)⟩
                                                            · rw [if_neg c62] at H
                                                              have c62b0 : decide ((a3.size : Int) ≤ t170) = false := decide_eq_false c62
                                                              clear c62
                                                              by_cases c64 : 0 ≤ t170
                                                              · rw [if_pos c64] at H
                                                                have c64b0 : decide (0 ≤ t170) = true := decide_eq_true c64
                                                                clear c64
                                                                by_cases c65 : t170 < (a3.size : Int)
                                                                · rw [if_pos c65] at H
                                                                  have c65b0 : decide (t170 < (a3.size : Int)) = true := decide_eq_true c65
                                                                  clear c65
                                                                  by_cases c67 : (bt a3 t170) = 41
                                                                  · rw [if_pos c67] at H
                                                                    have c67b0 : ((bt a3 t170) == 41) = true := beq_iff_eq.mpr c67
                                                                    have c67b1 : ((bt a3 t170) != 41) = false := bne_eq_false_iff_eq.mpr c67
                                                                    clear c67
                                                                    simp only [Option.some.injEq, Prod.mk.injEq] at H
                                                                    obtain ⟨rfl, rfl⟩ := H
                                                                    as_aux_lemma =>
                                                                     go_wp2_with (first | ((with_reducible refine gate_callee (f := 38) rfl ?_); refine goesL_ (some 181) rfl rfl Tryd.func38 (by kernel_rfl) rfl #[.int .i64 (wrap64 (x17_46 - t162)), .int .i64 a1, .slice A2 l2.length c2, .string a3, .int .i64 x22_50] rfl (by (try simp only [List.map_toArray, List.map_cons, List.map_nil]); first | done | rfl | (simp only [List.length_drop, List.length_take]; rfl)) ?_; (with_reducible refine (ih kj50 (by have := HJ10.out; have := HJ22.out; have := HJ25.out; have := HJ38.out; have := HJ46.out; have := HJ50.out; omega) (wrap64 (x17_46 - t162)) a1 _ _ l2 a3 x22_50 t169 t170 _ ?side1 ?side2 A59.out).mono ?_); (case side1 => repeat (first | exact (Kd.C_below HR2.out HB.out) | (with_reducible refine Kd.C_alloc ?_ _) | (with_reducible refine Kd.C_drewN ?_ _) | (with_reducible refine Kd.C_drew ?_))); (case side2 => exact HC2.out); rintro e w68 ⟨rfl, hb⟩; refine ⟨_, rfl, ?_⟩; have n0_ := Aside0.mk (below_step (by repeat (first | (with_reducible first | exact HB.out | apply below_alloc | apply pw_below_drewN | apply below_drew1) | exact HB.out)) hb); clear HB; have HB := n0_; clear n0_; (try clear hb); (try clear hb2); (try clear hk); (try clear hi); have p66 : 0 ≤ (t170 : Int) := of_decide_eq_true (by first | (with_reducible assumption) | assumption); have q66 : t170 < (a3.size : Int) := of_decide_eq_true (by first | (with_reducible assumption) | assumption); have hx66 := bt_at a3 t170; replace p66 := eq_true p66; replace q66 := eq_true q66))
                                                                     go_ret2
                                                                     exact ⟨by first | rfl | (simp [errW_none, errW_some] <;> rfl) | (simp only [← hji34]; first | rfl | (simp [errW_none, errW_some] <;> rfl)) | (simp [*, errW_none, errW_some] <;> rfl), by repeat (first | (with_reducible first | exact HB.out | apply below_alloc | apply pw_below_drewN | apply below_drew1) | exact HB.out)⟩
                                                                  · rw [if_neg c67] at H
                                                                    have c67b0 : ((bt a3 t170) == 41) = false := beq_eq_false_iff_ne.mpr c67
                                                                    have c67b1 : ((bt a3 t170) != 41) = true := bne_iff_ne.mpr c67
                                                                    simp only [Option.some.injEq, Prod.mk.injEq] at H
                                                                    obtain ⟨rfl, rfl⟩ := H
                                                                    as_aux_lemma =>
                                                                     go_wp2_with (first | ((with_reducible refine gate_callee (f := 38) rfl ?_); refine goesL_ (some 181) rfl rfl Tryd.func38 (by kernel_rfl) rfl #[.int .i64 (wrap64 (x17_46 - t162)), .int .i64 a1, .slice A2 l2.length c2, .string a3, .int .i64 x22_50] rfl (by (try simp only [List.map_toArray, List.map_cons, List.map_nil]); first | done | rfl | (simp only [List.length_drop, List.length_take]; rfl)) ?_; (with_reducible refine (ih kj50 (by have := HJ10.out; have := HJ22.out; have := HJ25.out; have := HJ38.out; have := HJ46.out; have := HJ50.out; omega) (wrap64 (x17_46 - t162)) a1 _ _ l2 a3 x22_50 t169 t170 _ ?side1 ?side2 A59.out).mono ?_); (case side1 => repeat (first | exact (Kd.C_below HR2.out HB.out) | (with_reducible refine Kd.C_alloc ?_ _) | (with_reducible refine Kd.C_drewN ?_ _) | (with_reducible refine Kd.C_drew ?_))); (case side2 => exact HC2.out); rintro e w69 ⟨rfl, hb⟩; refine ⟨_, rfl, ?_⟩; have n0_ := Aside0.mk (below_step (by repeat (first | (with_reducible first | exact HB.out | apply below_alloc | apply pw_below_drewN | apply below_drew1) | exact HB.out)) hb); clear HB; have HB := n0_; clear n0_; (try clear hb); (try clear hb2); (try clear hk); (try clear hi); have p66 : 0 ≤ (t170 : Int) := of_decide_eq_true (by first | (with_reducible assumption) | assumption); have q66 : t170 < (a3.size : Int) := of_decide_eq_true (by first | (with_reducible assumption) | assumption); have hx66 := bt_at a3 t170; replace p66 := eq_true p66; replace q66 := eq_true q66))
                                                                     go_ret2
                                                                     exact ⟨by first | rfl | (simp [errW_none, errW_some] <;> rfl) | (simp only [← hji34]; first | rfl | (simp [errW_none, errW_some] <;> rfl)) | (simp [*, errW_none, errW_some] <;> rfl), by repeat (first | (with_reducible first | exact HB.out | apply below_alloc | apply pw_below_drewN | apply below_drew1) | exact HB.out)⟩
                                                                · rw [if_neg c65] at H
                                                                  exact absurd H (by simp)
                                                              · rw [if_neg c64] at H
                                                                exact absurd H (by simp)
                                                        · rw [if_neg c58] at H
                                                          have c58b0 : ((bt a3 a4) == 118) = false := beq_eq_false_iff_ne.mpr c58
                                                          have c58b1 : ((bt a3 a4) != 118) = true := bne_iff_ne.mpr c58
                                                          replace H := Option.bind_eq_some_iff.mp H
                                                          obtain ⟨⟨t171, t172⟩, A700, H⟩ := H
                                                          replace H : (if t171 < 0 then (some ((-1), a4)) else (if t172 ≥ (a3.size : Int) then (some ((-1), a4)) else (if 0 ≤ t172 then (if t172 < (a3.size : Int) then (if (bt a3 t172) = 41 then (some (wrap64 (x20_50 + t171), wrap64 (t172 + 1))) else (some ((-1), a4))) else (none)) else (none)))) = some (r1, r2) := H
                                                          have A70 := Aside0.mk A700
                                                          clear A700
                                                          by_cases c71 : t171 < 0
                                                          · rw [if_pos c71] at H
                                                            have c71b0 : decide (t171 < 0) = true := decide_eq_true c71
                                                            clear c71
                                                            simp only [Option.some.injEq, Prod.mk.injEq] at H
                                                            obtain ⟨rfl, rfl⟩ := H
                                                            as_aux_lemma =>
                                                             go_wp2_with (first | ((with_reducible refine gate_callee (f := 38) rfl ?_); refine goesL_ (some 190) rfl rfl Tryd.func38 (by kernel_rfl) rfl #[.int .i64 a0, .int .i64 (wrap64 (x17_46 - t162)), .slice A2 l2.length c2, .string a3, .int .i64 x22_50] rfl (by (try simp only [List.map_toArray, List.map_cons, List.map_nil]); first | done | rfl | (simp only [List.length_drop, List.length_take]; rfl)) ?_; (with_reducible refine (ih kj50 (by have := HJ10.out; have := HJ22.out; have := HJ25.out; have := HJ38.out; have := HJ46.out; have := HJ50.out; omega) a0 (wrap64 (x17_46 - t162)) _ _ l2 a3 x22_50 t171 t172 _ ?side1 ?side2 A70.out).mono ?_); (case side1 => repeat (first | exact (Kd.C_below HR2.out HB.out) | (with_reducible refine Kd.C_alloc ?_ _) | (with_reducible refine Kd.C_drewN ?_ _) | (with_reducible refine Kd.C_drew ?_))); (case side2 => exact HC2.out); rintro e w72 ⟨rfl, hb⟩; refine ⟨_, rfl, ?_⟩; have n0_ := Aside0.mk (below_step (by repeat (first | (with_reducible first | exact HB.out | apply below_alloc | apply pw_below_drewN | apply below_drew1) | exact HB.out)) hb); clear HB; have HB := n0_; clear n0_; (try clear hb); (try clear hb2); (try clear hk); (try clear hi)))
                                                             go_ret2
                                                             exact ⟨by first | rfl | (simp [errW_none, errW_some] <;> rfl) | (simp only [← hji34]; first | rfl | (simp [errW_none, errW_some] <;> rfl)) | (simp [*, errW_none, errW_some] <;> rfl), by repeat (first | (with_reducible first | exact HB.out | apply below_alloc | apply pw_below_drewN | apply below_drew1) | exact HB.out)⟩
                                                          · rw [if_neg c71] at H
                                                            have c71b0 : decide (t171 < 0) = false := decide_eq_false c71
                                                            clear c71
                                                            by_cases c73 : t172 ≥ (a3.size : Int)
                                                            · rw [if_pos c73] at H
                                                              have c73b0 : decide ((a3.size : Int) ≤ t172) = true := decide_eq_true c73
                                                              clear c73
                                                              simp only [Option.some.injEq, Prod.mk.injEq] at H
                                                              obtain ⟨rfl, rfl⟩ := H
                                                              as_aux_lemma =>
                                                               go_wp2_with (first | ((with_reducible refine gate_callee (f := 38) rfl ?_); refine goesL_ (some 190) rfl rfl Tryd.func38 (by kernel_rfl) rfl #[.int .i64 a0, .int .i64 (wrap64 (x17_46 - t162)), .slice A2 l2.length c2, .string a3, .int .i64 x22_50] rfl (by (try simp only [List.map_toArray, List.map_cons, List.map_nil]); first | done | rfl | (simp only [List.length_drop, List.length_take]; rfl)) ?_; (with_reducible refine (ih kj50 (by have := HJ10.out; have := HJ22.out; have := HJ25.out; have := HJ38.out; have := HJ46.out; have := HJ50.out; omega) a0 (wrap64 (x17_46 - t162)) _ _ l2 a3 x22_50 t171 t172 _ ?side1 ?side2 A70.out).mono ?_); (case side1 => repeat (first | exact (Kd.C_below HR2.out HB.out) | (with_reducible refine Kd.C_alloc ?_ _) | (with_reducible refine Kd.C_drewN ?_ _) | (with_reducible refine Kd.C_drew ?_))); (case side2 => exact HC2.out); rintro e w74 ⟨rfl, hb⟩; refine ⟨_, rfl, ?_⟩; have n0_ := Aside0.mk (below_step (by repeat (first | (with_reducible first | exact HB.out | apply below_alloc | apply pw_below_drewN | apply below_drew1) | exact HB.out)) hb); clear HB; have HB := n0_; clear n0_; (try clear hb); (try clear hb2); (try clear hk); (try clear hi)))
                                                               go_ret2
                                                               exact ⟨by first | rfl | (simp [errW_none, errW_some] <;> rfl) | (simp only [← hji34]; first | rfl | (simp [errW_none, errW_some] <;> rfl)) | (simp [*, errW_none, errW_some] <;> rfl), by repeat (first | (with_reducible first | exact HB.out | apply below_alloc | apply pw_below_drewN | apply below_drew1) | exact HB.out)⟩
                                                            · rw [if_neg c73] at H
                                                              have c73b0 : decide ((a3.size : Int) ≤ t172) = false := decide_eq_false c73
                                                              clear c73
                                                              by_cases c75 : 0 ≤ t172
                                                              · rw [if_pos c75] at H
                                                                have c75b0 : decide (0 ≤ t172) = true := decide_eq_true c75
                                                                clear c75
                                                                by_cases c76 : t172 < (a3.size : Int)
                                                                · rw [if_pos c76] at H
                                                                  have c76b0 : decide (t172 < (a3.size : Int)) = true := decide_eq_true c76
                                                                  clear c76
                                                                  by_cases c78 : (bt a3 t172) = 41
                                                                  · rw [if_pos c78] at H
                                                                    have c78b0 : ((bt a3 t172) == 41) = true := beq_iff_eq.mpr c78
                                                                    have c78b1 : ((bt a3 t172) != 41) = false := bne_eq_false_iff_eq.mpr c78
                                                                    clear c78
                                                                    simp only [Option.some.injEq, Prod.mk.injEq] at H
                                                                    obtain ⟨rfl, rfl⟩ := H
                                                                    as_aux_lemma =>
                                                                     go_wp2_with (first | ((with_reducible refine gate_callee (f := 38) rfl ?_); refine goesL_ (some 190) rfl rfl Tryd.func38 (by kernel_rfl) rfl #[.int .i64 a0, .int .i64 (wrap64 (x17_46 - t162)), .slice A2 l2.length c2, .string a3, .int .i64 x22_50] rfl (by (try simp only [List.map_toArray, List.map_cons, List.map_nil]); first | done | rfl | (simp only [List.length_drop, List.length_take]; rfl)) ?_; (with_reducible refine (ih kj50 (by have := HJ10.out; have := HJ22.out; have := HJ25.out; have := HJ38.out; have := HJ46.out; have := HJ50.out; omega) a0 (wrap64 (x17_46 - t162)) _ _ l2 a3 x22_50 t171 t172 _ ?side1 ?side2 A70.out).mono ?_); (case side1 => repeat (first | exact (Kd.C_below HR2.out HB.out) | (with_reducible refine Kd.C_alloc ?_ _) | (with_reducible refine Kd.C_drewN ?_ _) | (with_reducible refine Kd.C_drew ?_))); (case side2 => exact HC2.out); rintro e w79 ⟨rfl, hb⟩; refine ⟨_, rfl, ?_⟩; have n0_ := Aside0.mk (below_step (by repeat (first | (with_reducible first | exact HB.out | apply below_alloc | apply pw_below_drewN | apply below_drew1) | exact HB.out)) hb); clear HB; have HB := n0_; clear n0_; (try clear hb); (try clear hb2); (try clear hk); (try clear hi); have p77 : 0 ≤ (t172 : Int) := of_decide_eq_true (by first | (with_reducible assumption) | assumption); have q77 : t172 < (a3.size : Int) := of_decide_eq_true (by first | (with_reducible assumption) | assumption); have hx77 := bt_at a3 t172; replace p77 := eq_true p77; replace q77 := eq_true q77))
                                                                     go_ret2
                                                                     exact ⟨by first | rfl | (simp [errW_none, errW_some] <;> rfl) | (simp only [← hji34]; first | rfl | (simp [errW_none, errW_some] <;> rfl)) | (simp [*, errW_none, errW_some] <;> rfl), by repeat (first | (with_reducible first | exact HB.out | apply below_alloc | apply pw_below_drewN | apply below_drew1) | exact HB.out)⟩
                                                                  · rw [if_neg c78] at H
                                                                    have c78b0 : ((bt a3 t172) == 41) = false := beq_eq_false_iff_ne.mpr c78
                                                                    have c78b1 : ((bt a3 t172) != 41) = true := bne_iff_ne.mpr c78
                                                                    simp only [Option.some.injEq, Prod.mk.injEq] at H
                                                                    obtain ⟨rfl, rfl⟩ := H
                                                                    as_aux_lemma =>
                                                                     go_wp2_with (first | ((with_reducible refine gate_callee (f := 38) rfl ?_); refine goesL_ (some 190) rfl rfl Tryd.func38 (by kernel_rfl) rfl #[.int .i64 a0, .int .i64 (wrap64 (x17_46 - t162)), .slice A2 l2.length c2, .string a3, .int .i64 x22_50] rfl (by (try simp only [List.map_toArray, List.map_cons, List.map_nil]); first | done | rfl | (simp only [List.length_drop, List.length_take]; rfl)) ?_; (with_reducible refine (ih kj50 (by have := HJ10.out; have := HJ22.out; have := HJ25.out; have := HJ38.out; have := HJ46.out; have := HJ50.out; omega) a0 (wrap64 (x17_46 - t162)) _ _ l2 a3 x22_50 t171 t172 _ ?side1 ?side2 A70.out).mono ?_); (case side1 => repeat (first | exact (Kd.C_below HR2.out HB.out) | (with_reducible refine Kd.C_alloc ?_ _) | (with_reducible refine Kd.C_drewN ?_ _) | (with_reducible refine Kd.C_drew ?_))); (case side2 => exact HC2.out); rintro e w80 ⟨rfl, hb⟩; refine ⟨_, rfl, ?_⟩; have n0_ := Aside0.mk (below_step (by repeat (first | (with_reducible first | exact HB.out | apply below_alloc | apply pw_below_drewN | apply below_drew1) | exact HB.out)) hb); clear HB; have HB := n0_; clear n0_; (try clear hb); (try clear hb2); (try clear hk); (try clear hi); have p77 : 0 ≤ (t172 : Int) := of_decide_eq_true (by first | (with_reducible assumption) | assumption); have q77 : t172 < (a3.size : Int) := of_decide_eq_true (by first | (with_reducible assumption) | assumption); have hx77 := bt_at a3 t172; replace p77 := eq_true p77; replace q77 := eq_true q77))
                                                                     go_ret2
                                                                     exact ⟨by first | rfl | (simp [errW_none, errW_some] <;> rfl) | (simp only [← hji34]; first | rfl | (simp [errW_none, errW_some] <;> rfl)) | (simp [*, errW_none, errW_some] <;> rfl), by repeat (first | (with_reducible first | exact HB.out | apply below_alloc | apply pw_below_drewN | apply below_drew1) | exact HB.out)⟩
                                                                · rw [if_neg c76] at H
                                                                  exact absurd H (by simp)
                                                              · rw [if_neg c75] at H
                                                                exact absurd H (by simp)
                                               · replace c50 := Bool.eq_false_iff.mpr c50
                                                 subst c50
                                                 have H1 : (some ((-1), a4)) = some (r1, r2) := by rw [if_neg (show ¬ (false = true) by decide)] at H; exact H
                                                 clear H
                                                 have H := H1
                                                 clear H1
                                                 simp only [Option.some.injEq, Prod.mk.injEq] at H
                                                 obtain ⟨rfl, rfl⟩ := H
                                                 as_aux_lemma =>
                                                  go_wp2_with (first | ((with_reducible refine gate_callee (f := 47) rfl ?_); refine goesL_ (some 141) rfl rfl Tryd.func47 (by kernel_rfl) rfl #[.int .i64 t162, .int .i64 1, .int .i64 (wrap64 (x17_46 - 1))] rfl (by (try simp only [List.map_toArray, List.map_cons, List.map_nil]); first | done | rfl | (simp only [List.length_drop, List.length_take]; rfl)) ?_; (with_reducible refine (spec_l01In.calls t162 1 (wrap64 (x17_46 - 1)) false _ A49.out).mono ?_); rintro e w' ⟨rfl, ⟨nd, rfl⟩⟩; refine ⟨_, rfl, ?_⟩))
                                                  go_ret2
                                                  exact ⟨by first | rfl | (simp [errW_none, errW_some] <;> rfl) | (simp only [← hji34]; first | rfl | (simp [errW_none, errW_some] <;> rfl)) | (simp [*, errW_none, errW_some] <;> rfl), by repeat (first | (with_reducible first | exact HB.out | apply below_alloc | apply pw_below_drewN | apply below_drew1) | exact HB.out)⟩
                                 · rw [if_neg c37] at H
                                   exact absurd H (by simp)
                               · rw [if_neg c36] at H
                                 exact absurd H (by simp)
                             · rw [if_neg c35] at H
                               exact absurd H (by simp)
      · rw [if_neg c8] at H
        exact absurd H (by simp)
    · rw [if_neg c7] at H
      exact absurd H (by simp)

end Go.Proofs.YthjiccclpalobaaDoor.XFnExactPlanValue
