/- What functions of the program compute, as plain Lean functions, and that Go's calls come to just that: written by wip/tools/xprint.py for the law FnNests. -/
import Derived.Test.YtpnngdljfnhnfaaXFnNestsx3
import Derived.Test.YtpnngdljfnhnfaaXFnNestsx4
import Derived.Test.YtpnngdljfnhnfaaXFnNestsx7
import Derived.Test.YtpnngdljfnhnfaaXFnNestsx8
import Derived.Test.YtpnngdljfnhnfaaXFnNestsx9
import Derived.Test.YtpnngdljfnhnfaaXFnNestsx10
import Derived.Test.YtpnngdljfnhnfaaXFnNestsx0
namespace Go.Proofs.Ytpnngdljfnhnfaa.XFnNests
open Go.RowKit Go.Proofs.YtpnngdljfnhnfaaW.PrintWords Go.Proofs.YtpnngdljfnhnfaaW.PrintLast Go.Proofs.YtpnngdljfnhnfaaW.PrintMore
attribute [local go_sem] max2_int min2_int max_two min_two max_three min_three max_four min_four   -- for this text's walks alone
set_option linter.unusedVariables false
set_option linter.unusedSimpArgs false

/-! ### laws_has: function 25 -/
def laws_has.l0 : Nat → Int → List Int → Int → Int → Option (Bool)
  | 0, _, _, _, _ => none
  | k + 1, x1, x7, x8, x9 => if x9 < x8 then (if 0 ≤ x9 then (if x9 < (x7.length : Int) then (if (rd x7 x9) = x1 then (some true) else (laws_has.l0 k x1 x7 x8 (wrap64 (x9 + 1)))) else (none)) else (none)) else (some false)
def laws_has.f (k : Nat) (l0 : List Int) (a1 : Int) : Option (Bool) := laws_has.l0 k a1 l0 (l0.length : Int) 0
theorem laws_has.mono_l : ∀ k, (∀ y0 y1 y2 y3, LeO (laws_has.l0 k y0 y1 y2 y3) (laws_has.l0 (k + 1) y0 y1 y2 y3))
  | 0 => fun _ _ _ _ r h => by simp [laws_has.l0] at h
  | k + 1 => by
    have ih0 := laws_has.mono_l k
    · intro y0 y1 y2 y3
      unfold laws_has.l0
      repeat' first
      | (with_reducible exact ih0 _ _ _ _)
      | (with_reducible exact LeO.refl _)
      | (with_reducible exact LeO.none _)
      | (with_reducible refine LeO.ite ?_ ?_)
      | (with_reducible refine LeO.bind ?_ (fun _ => ?_))
      | exact ih0 _ _ _ _
      | exact LeO.none _
      | refine LeO.ite ?_ ?_
      | refine LeO.bind ?_ (fun _ => ?_)
theorem laws_has.mono : ∀ a0 a1 k, LeO (laws_has.f k a0 a1) (laws_has.f (k + 1) a0 a1) := by
  intro a0 a1 k
  have ih0 := laws_has.mono_l k
  unfold laws_has.f
  repeat' first
      | (with_reducible exact ih0 _ _ _ _)
      | (with_reducible exact LeO.refl _)
      | (with_reducible exact LeO.none _)
      | (with_reducible refine LeO.ite ?_ ?_)
      | (with_reducible refine LeO.bind ?_ (fun _ => ?_))
      | exact ih0 _ _ _ _
      | exact LeO.none _
      | refine LeO.ite ?_ ?_
      | refine LeO.bind ?_ (fun _ => ?_)
set_option maxHeartbeats 8000000 in
set_option maxRecDepth 100000 in
theorem laws_has.calls (k : Nat) (A0 : Option Addr) (c0 : Nat) (l0 : List Int) (a1 : Int) (r : Bool) (w : World) (hr0 : Kd.C (Kd.int .i64) w A0 l0.length l0) (hc0 : l0.length ≤ c0) (h : laws_has.f k l0 a1 = some r) :
    Calls Try.prog 25 #[.slice A0 l0.length c0, .int .i64 a1] w fun e w' => e = .returned (.bool r) ∧ Drawn0 w w' := by
  have HR0 := Aside0.mk hr0
  have HC0 := Aside0.mk hc0
  clear hr0 hc0
  have H : (laws_has.l0 k a1 l0 (l0.length : Int) 0) = some r := h
  clear h
  have H' := Aside0.mk H
  clear H
  go_enter Try.func25, Try.ntmps25
  go_wp2
  go_loopg [9] k (fun kq v9 w' => ∃ (x9_1 : Int), v9 = .int .i64 x9_1 ∧ Aside0 (laws_has.l0 kq a1 l0 (l0.length : Int) x9_1 = some r) ∧ Aside0 (kq ≤ k) ∧ Drawn0 w w')
  case atStart => exact ⟨(0), (by first | rfl | (simp; done) | (simp [*]; done)), H', ⟨Nat.le_refl _⟩, by repeat (first | exact Drawn0.refl _ | apply Drawn0.step)⟩
  case round =>
    clear H'
    try clear c2
    try clear p2
    obtain ⟨x9_1, rfl, HA, HK1, ⟨m1, rfl⟩⟩ := hrel
    cases gk with
    | zero => exact absurd HA.out (by simp [laws_has.l0])
    | succ k1 =>
      have H := HA.out
      clear HA
      simp only [laws_has.l0] at H
      by_cases c3 : x9_1 < (l0.length : Int)
      · rw [if_pos c3] at H
        have c3b0 : decide (x9_1 < (l0.length : Int)) = true := decide_eq_true c3
        clear c3
        by_cases c4 : 0 ≤ x9_1
        · rw [if_pos c4] at H
          have c4b0 : decide (0 ≤ x9_1) = true := decide_eq_true c4
          clear c4
          by_cases c5 : x9_1 < (l0.length : Int)
          · rw [if_pos c5] at H
            have c5b0 : decide (x9_1 < (l0.length : Int)) = true := decide_eq_true c5
            clear c5
            by_cases c6 : (rd l0 x9_1) = a1
            · rw [if_pos c6] at H
              have c6b0 : ((rd l0 x9_1) == a1) = true := beq_iff_eq.mpr c6
              have c6b1 : ((rd l0 x9_1) != a1) = false := bne_eq_false_iff_eq.mpr c6
              clear c6
              obtain rfl := Option.some.inj H
              have p336 : 0 ≤ (x9_1 : Int) := of_decide_eq_true (by first | (with_reducible assumption) | assumption)
              have q336 : x9_1 < (l0.length : Int) := of_decide_eq_true (by first | (with_reducible assumption) | assumption)
              obtain ⟨ad336, e336, hx336_0⟩ := Kd.at_int HR0.out x9_1 p336 q336
              cases e336
              replace p336 := eq_true p336
              replace q336 := eq_true q336
              go_wp2
              go_ret
              exact ⟨by first | rfl | (simp; done) | (simp [*]; done), by repeat (first | exact Drawn0.refl _ | apply Drawn0.step)⟩
            · rw [if_neg c6] at H
              have c6b0 : ((rd l0 x9_1) == a1) = false := beq_eq_false_iff_ne.mpr c6
              have c6b1 : ((rd l0 x9_1) != a1) = true := bne_iff_ne.mpr c6
              have H' := Aside0.mk H
              clear H
              have p336 : 0 ≤ (x9_1 : Int) := of_decide_eq_true (by first | (with_reducible assumption) | assumption)
              have q336 : x9_1 < (l0.length : Int) := of_decide_eq_true (by first | (with_reducible assumption) | assumption)
              obtain ⟨ad336, e336, hx336_0⟩ := Kd.at_int HR0.out x9_1 p336 q336
              cases e336
              replace p336 := eq_true p336
              replace q336 := eq_true q336
              go_wp2
              go_roundg k1
              case measure => have := HK1.out; omega
              case rel => exact ⟨(wrap64 (x9_1 + 1)), (by first | rfl | (simp; done) | (simp [*]; done)), H', ⟨by have := HK1.out; omega⟩, by repeat (first | exact Drawn0.refl _ | apply Drawn0.step)⟩
          · rw [if_neg c5] at H
            exact absurd H (by simp)
        · rw [if_neg c4] at H
          exact absurd H (by simp)
      · rw [if_neg c3] at H
        have c3b0 : decide (x9_1 < (l0.length : Int)) = false := decide_eq_false c3
        clear c3
        obtain rfl := Option.some.inj H
        go_wp2
        go_ret
        exact ⟨by first | rfl | (simp; done) | (simp [*]; done), by repeat (first | exact Drawn0.refl _ | apply Drawn0.step)⟩

mutual
def laws_FnNests.j0 : Nat → List Int → Int → Int → List Int → Bool → List Int → Int → Bool → Option (Bool)
  | 0, _, _, _, _, _, _, _, _ => none
  | k + 1, x0, x3, x4, x5, x6, x7, x8, x70 => if x70 = true then (some false) else ((impl_NestAll.f k x3 x4 x5 x6).bind fun bt349 => ((impl_CountNests.f k x3 x4 x5 x6).bind fun t353 => (if (bt349.2 != (decide (t353 > 0))) = true then (laws_FnNests.j1 k x0 x3 x4 x5 x6 x7 x8 bt349.1 bt349.2 true) else (if t353 < 0 then (laws_FnNests.j1 k x0 x3 x4 x5 x6 x7 x8 bt349.1 bt349.2 true) else (if t353 > 5000 then (laws_FnNests.j1 k x0 x3 x4 x5 x6 x7 x8 bt349.1 bt349.2 true) else (if (x7.length : Int) = (x5.length : Int) then (laws_FnNests.j1 k x0 x3 x4 x5 x6 x7 x8 bt349.1 bt349.2 (!bt349.2)) else (laws_FnNests.j1 k x0 x3 x4 x5 x6 x7 x8 bt349.1 bt349.2 false)))))))
def laws_FnNests.j1 : Nat → List Int → Int → Int → List Int → Bool → List Int → Int → List Int → Bool → Bool → Option (Bool)
  | 0, _, _, _, _, _, _, _, _, _, _ => none
  | k + 1, x0, x3, x4, x5, x6, x7, x8, x9, x10, x106 => if x106 = true then (some false) else (if x10 = true then (if (x9.length : Int) = (x5.length : Int) then ((impl_NestOk.f k x3 x4 x9).bind fun t354 => (laws_FnNests.j2 k x0 x3 x4 x5 x6 x7 x8 x9 (!t354))) else (laws_FnNests.j2 k x0 x3 x4 x5 x6 x7 x8 x9 true)) else (laws_FnNests.j4 k x0 x3 x4 x8))
def laws_FnNests.j4 : Nat → List Int → Int → Int → Int → Option (Bool)
  | 0, _, _, _, _ => none
  | k + 1, x0, x3, x4, x8 => (spec_MakeShape.f k x0 40 x3 x4 4).bind fun t365 => ((impl_Layings.f k x3 x4 x8 t365 false).bind fun t366 => ((impl_Layings.f k x3 x4 x8 t365 true).bind fun t369 => ((impl_FitsHow.f k x3 x4 x8 t365).bind fun t372 => (if (t372.length : Int) = 8 then (if 0 < (t372.length : Int) then (if (rd t372 0) = (t366.length : Int) then (if (t369.length : Int) < (t366.length : Int) then (laws_FnNests.j5 k x8 t365 t366 t369 true) else ((laws_sum.f k t372).bind fun t376 => (laws_FnNests.j5 k x8 t365 t366 t369 (decide ((t369.length : Int) > t376))))) else (laws_FnNests.j5 k x8 t365 t366 t369 true)) else (none)) else (laws_FnNests.j5 k x8 t365 t366 t369 true)))))
def laws_FnNests.j5 : Nat → Int → Int → List Int → List Int → Bool → Option (Bool)
  | 0, _, _, _, _, _ => none
  | k + 1, x8, x14, x15, x16, x221 => if x221 = true then (some false) else (laws_FnNests.l1 k x8 x14 x15 x16 (x16.length : Int) 0)
def laws_FnNests.l1 : Nat → Int → Int → List Int → List Int → Int → Int → Option (Bool)
  | 0, _, _, _, _, _, _ => none
  | k + 1, x8, x14, x15, x16, x223, x224 => if x224 < x223 then (if 0 ≤ x224 then (if x224 < (x16.length : Int) then (if (rd x16 x224) ≤ 0 then (some false) else (if (Go.bits .or .i64 x8 (rd x16 x224)) = x8 then ((laws_cells.f k (rd x16 x224)).bind fun t378 => ((laws_cells.f k x14).bind fun t379 => (if t378 = t379 then (if x224 > 0 then (if 0 ≤ (wrap64 (x224 - 1)) then (if (wrap64 (x224 - 1)) < (x16.length : Int) then (if (rd x16 x224) ≤ (rd x16 (wrap64 (x224 - 1))) then (some false) else (laws_FnNests.l1 k x8 x14 x15 x16 x223 (wrap64 (x224 + 1)))) else (none)) else (none)) else (laws_FnNests.l1 k x8 x14 x15 x16 x223 (wrap64 (x224 + 1)))) else (some false)))) else (some false))) else (none)) else (none)) else (laws_FnNests.l2 k x15 x16 (x15.length : Int) 0)
def laws_FnNests.l2 : Nat → List Int → List Int → Int → Int → Option (Bool)
  | 0, _, _, _, _ => none
  | k + 1, x15, x16, x260, x261 => if x261 < x260 then (if 0 ≤ x261 then (if x261 < (x15.length : Int) then ((laws_has.f k x16 (rd x15 x261)).bind fun t382 => (if t382 = true then (laws_FnNests.l2 k x15 x16 x260 (wrap64 (x261 + 1))) else (some false))) else (none)) else (none)) else (some true)
def laws_FnNests.j2 : Nat → List Int → Int → Int → List Int → Bool → List Int → Int → List Int → Bool → Option (Bool)
  | 0, _, _, _, _, _, _, _, _, _ => none
  | k + 1, x0, x3, x4, x5, x6, x7, x8, x9, x119 => if x119 = true then (some false) else (laws_FnNests.l0 k x0 x3 x4 x5 x6 x7 x8 x9 (x9.length : Int) 0)
def laws_FnNests.l0 : Nat → List Int → Int → Int → List Int → Bool → List Int → Int → List Int → Int → Int → Option (Bool)
  | 0, _, _, _, _, _, _, _, _, _, _ => none
  | k + 1, x0, x3, x4, x5, x6, x7, x8, x9, x121, x122 => if x122 < x121 then (if 0 ≤ x122 then (if x122 < (x9.length : Int) then ((laws_cells.f k (rd x9 x122)).bind fun t357 => (if x122 < (x5.length : Int) then ((laws_cells.f k (rd x5 x122)).bind fun t359 => (if t357 = t359 then (if x6 = true then ((impl_SamePiece.f k x3 x4 (rd x5 x122) (rd x9 x122)).bind fun t361 => (if t361 = true then (laws_FnNests.l0 k x0 x3 x4 x5 x6 x7 x8 x9 x121 (wrap64 (x122 + 1))) else (some false))) else ((impl_CornerOf.f k x3 x4 (rd x9 x122)).bind fun t362 => ((impl_CornerOf.f k x3 x4 (rd x5 x122)).bind fun t364 => (if t362 = t364 then (laws_FnNests.l0 k x0 x3 x4 x5 x6 x7 x8 x9 x121 (wrap64 (x122 + 1))) else (some false))))) else (some false))) else (none))) else (none)) else (none)) else (if (x7.length : Int) = (x5.length : Int) then ((laws_before.f k x7 x9).bind fun t355 => (if t355 = true then (some false) else (laws_FnNests.j4 k x0 x3 x4 x8))) else (laws_FnNests.j4 k x0 x3 x4 x8))
end
def laws_FnNests.f (k : Nat) (l0 : List Int) : Option (Bool) := if (l0.length : Int) > 1048576 then (some true) else ((spec_MakeShapes.f k l0 0 3).bind fun bt337 => ((spec_MakeSize.f k l0 30 0 1).bind fun t342 => ((impl_NestGreedy.f k bt337.1 bt337.2.1 bt337.2.2 (t342 == 1)).bind fun t343 => ((impl_FreeOf.f k bt337.1 bt337.2.1 t343).bind fun t346 => ((impl_NestOk.f k bt337.1 bt337.2.1 t343).bind fun t347 => (if t347 = true then (if (t343.length : Int) > (bt337.2.2.length : Int) then (laws_FnNests.j0 k l0 bt337.1 bt337.2.1 bt337.2.2 (t342 == 1) t343 t346 true) else (if t346 < 0 then (laws_FnNests.j0 k l0 bt337.1 bt337.2.1 bt337.2.2 (t342 == 1) t343 t346 true) else ((laws_sum.f k t343).bind fun t348 => (if 0 ≤ (wrap64 (bt337.1 * bt337.2.1)) then (laws_FnNests.j0 k l0 bt337.1 bt337.2.1 bt337.2.2 (t342 == 1) t343 t346 ((wrap64 (t346 + t348)) != (wrap64 ((shl .i64 1 (wrap64 (bt337.1 * bt337.2.1))) - 1)))) else (none))))) else (laws_FnNests.j0 k l0 bt337.1 bt337.2.1 bt337.2.2 (t342 == 1) t343 t346 true)))))))
theorem laws_FnNests.mono_l : ∀ k, (∀ y0 y1 y2 y3 y4 y5 y6 y7, LeO (laws_FnNests.j0 k y0 y1 y2 y3 y4 y5 y6 y7) (laws_FnNests.j0 (k + 1) y0 y1 y2 y3 y4 y5 y6 y7)) ∧ (∀ y0 y1 y2 y3 y4 y5 y6 y7 y8 y9, LeO (laws_FnNests.j1 k y0 y1 y2 y3 y4 y5 y6 y7 y8 y9) (laws_FnNests.j1 (k + 1) y0 y1 y2 y3 y4 y5 y6 y7 y8 y9)) ∧ (∀ y0 y1 y2 y3, LeO (laws_FnNests.j4 k y0 y1 y2 y3) (laws_FnNests.j4 (k + 1) y0 y1 y2 y3)) ∧ (∀ y0 y1 y2 y3 y4, LeO (laws_FnNests.j5 k y0 y1 y2 y3 y4) (laws_FnNests.j5 (k + 1) y0 y1 y2 y3 y4)) ∧ (∀ y0 y1 y2 y3 y4 y5, LeO (laws_FnNests.l1 k y0 y1 y2 y3 y4 y5) (laws_FnNests.l1 (k + 1) y0 y1 y2 y3 y4 y5)) ∧ (∀ y0 y1 y2 y3, LeO (laws_FnNests.l2 k y0 y1 y2 y3) (laws_FnNests.l2 (k + 1) y0 y1 y2 y3)) ∧ (∀ y0 y1 y2 y3 y4 y5 y6 y7 y8, LeO (laws_FnNests.j2 k y0 y1 y2 y3 y4 y5 y6 y7 y8) (laws_FnNests.j2 (k + 1) y0 y1 y2 y3 y4 y5 y6 y7 y8)) ∧ (∀ y0 y1 y2 y3 y4 y5 y6 y7 y8 y9, LeO (laws_FnNests.l0 k y0 y1 y2 y3 y4 y5 y6 y7 y8 y9) (laws_FnNests.l0 (k + 1) y0 y1 y2 y3 y4 y5 y6 y7 y8 y9))
  | 0 => ⟨fun _ _ _ _ _ _ _ _ r h => by simp [laws_FnNests.j0] at h, fun _ _ _ _ _ _ _ _ _ _ r h => by simp [laws_FnNests.j1] at h, fun _ _ _ _ r h => by simp [laws_FnNests.j4] at h, fun _ _ _ _ _ r h => by simp [laws_FnNests.j5] at h, fun _ _ _ _ _ _ r h => by simp [laws_FnNests.l1] at h, fun _ _ _ _ r h => by simp [laws_FnNests.l2] at h, fun _ _ _ _ _ _ _ _ _ r h => by simp [laws_FnNests.j2] at h, fun _ _ _ _ _ _ _ _ _ _ r h => by simp [laws_FnNests.l0] at h⟩
  | k + 1 => by
    obtain ⟨ih0, ih1, ih2, ih3, ih4, ih5, ih6, ih7⟩ := laws_FnNests.mono_l k
    refine ⟨?_, ?_, ?_, ?_, ?_, ?_, ?_, ?_⟩
    · intro y0 y1 y2 y3 y4 y5 y6 y7
      unfold laws_FnNests.j0
      repeat' first
      | (with_reducible exact ih0 _ _ _ _ _ _ _ _)
      | (with_reducible exact ih1 _ _ _ _ _ _ _ _ _ _)
      | (with_reducible exact ih2 _ _ _ _)
      | (with_reducible exact ih3 _ _ _ _ _)
      | (with_reducible exact ih4 _ _ _ _ _ _)
      | (with_reducible exact ih5 _ _ _ _)
      | (with_reducible exact ih6 _ _ _ _ _ _ _ _ _)
      | (with_reducible exact ih7 _ _ _ _ _ _ _ _ _ _)
      | (with_reducible exact impl_CornerOf.mono _ _ _ _)
      | (with_reducible exact impl_CountNests.mono _ _ _ _ _)
      | (with_reducible exact impl_FitsHow.mono _ _ _ _ _)
      | (with_reducible exact impl_FreeOf.mono _ _ _ _)
      | (with_reducible exact impl_Layings.mono _ _ _ _ _ _)
      | (with_reducible exact impl_NestAll.mono _ _ _ _ _)
      | (with_reducible exact impl_NestGreedy.mono _ _ _ _ _)
      | (with_reducible exact impl_NestOk.mono _ _ _ _)
      | (with_reducible exact impl_SamePiece.mono _ _ _ _ _)
      | (with_reducible exact laws_before.mono _ _ _)
      | (with_reducible exact laws_cells.mono _ _)
      | (with_reducible exact laws_has.mono _ _ _)
      | (with_reducible exact laws_sum.mono _ _)
      | (with_reducible exact spec_MakeShape.mono _ _ _ _ _ _)
      | (with_reducible exact spec_MakeShapes.mono _ _ _ _)
      | (with_reducible exact spec_MakeSize.mono _ _ _ _ _)
      | (with_reducible exact LeO.refl _)
      | (with_reducible exact LeO.none _)
      | (with_reducible refine LeO.ite ?_ ?_)
      | (with_reducible refine LeO.bind ?_ (fun _ => ?_))
      | exact ih0 _ _ _ _ _ _ _ _
      | exact ih1 _ _ _ _ _ _ _ _ _ _
      | exact ih2 _ _ _ _
      | exact ih3 _ _ _ _ _
      | exact ih4 _ _ _ _ _ _
      | exact ih5 _ _ _ _
      | exact ih6 _ _ _ _ _ _ _ _ _
      | exact ih7 _ _ _ _ _ _ _ _ _ _
      | exact impl_CornerOf.mono _ _ _ _
      | exact impl_CountNests.mono _ _ _ _ _
      | exact impl_FitsHow.mono _ _ _ _ _
      | exact impl_FreeOf.mono _ _ _ _
      | exact impl_Layings.mono _ _ _ _ _ _
      | exact impl_NestAll.mono _ _ _ _ _
      | exact impl_NestGreedy.mono _ _ _ _ _
      | exact impl_NestOk.mono _ _ _ _
      | exact impl_SamePiece.mono _ _ _ _ _
      | exact laws_before.mono _ _ _
      | exact laws_cells.mono _ _
      | exact laws_has.mono _ _ _
      | exact laws_sum.mono _ _
      | exact spec_MakeShape.mono _ _ _ _ _ _
      | exact spec_MakeShapes.mono _ _ _ _
      | exact spec_MakeSize.mono _ _ _ _ _
      | exact LeO.none _
      | refine LeO.ite ?_ ?_
      | refine LeO.bind ?_ (fun _ => ?_)
    · intro y0 y1 y2 y3 y4 y5 y6 y7 y8 y9
      unfold laws_FnNests.j1
      repeat' first
      | (with_reducible exact ih0 _ _ _ _ _ _ _ _)
      | (with_reducible exact ih1 _ _ _ _ _ _ _ _ _ _)
      | (with_reducible exact ih2 _ _ _ _)
      | (with_reducible exact ih3 _ _ _ _ _)
      | (with_reducible exact ih4 _ _ _ _ _ _)
      | (with_reducible exact ih5 _ _ _ _)
      | (with_reducible exact ih6 _ _ _ _ _ _ _ _ _)
      | (with_reducible exact ih7 _ _ _ _ _ _ _ _ _ _)
      | (with_reducible exact impl_CornerOf.mono _ _ _ _)
      | (with_reducible exact impl_CountNests.mono _ _ _ _ _)
      | (with_reducible exact impl_FitsHow.mono _ _ _ _ _)
      | (with_reducible exact impl_FreeOf.mono _ _ _ _)
      | (with_reducible exact impl_Layings.mono _ _ _ _ _ _)
      | (with_reducible exact impl_NestAll.mono _ _ _ _ _)
      | (with_reducible exact impl_NestGreedy.mono _ _ _ _ _)
      | (with_reducible exact impl_NestOk.mono _ _ _ _)
      | (with_reducible exact impl_SamePiece.mono _ _ _ _ _)
      | (with_reducible exact laws_before.mono _ _ _)
      | (with_reducible exact laws_cells.mono _ _)
      | (with_reducible exact laws_has.mono _ _ _)
      | (with_reducible exact laws_sum.mono _ _)
      | (with_reducible exact spec_MakeShape.mono _ _ _ _ _ _)
      | (with_reducible exact spec_MakeShapes.mono _ _ _ _)
      | (with_reducible exact spec_MakeSize.mono _ _ _ _ _)
      | (with_reducible exact LeO.refl _)
      | (with_reducible exact LeO.none _)
      | (with_reducible refine LeO.ite ?_ ?_)
      | (with_reducible refine LeO.bind ?_ (fun _ => ?_))
      | exact ih0 _ _ _ _ _ _ _ _
      | exact ih1 _ _ _ _ _ _ _ _ _ _
      | exact ih2 _ _ _ _
      | exact ih3 _ _ _ _ _
      | exact ih4 _ _ _ _ _ _
      | exact ih5 _ _ _ _
      | exact ih6 _ _ _ _ _ _ _ _ _
      | exact ih7 _ _ _ _ _ _ _ _ _ _
      | exact impl_CornerOf.mono _ _ _ _
      | exact impl_CountNests.mono _ _ _ _ _
      | exact impl_FitsHow.mono _ _ _ _ _
      | exact impl_FreeOf.mono _ _ _ _
      | exact impl_Layings.mono _ _ _ _ _ _
      | exact impl_NestAll.mono _ _ _ _ _
      | exact impl_NestGreedy.mono _ _ _ _ _
      | exact impl_NestOk.mono _ _ _ _
      | exact impl_SamePiece.mono _ _ _ _ _
      | exact laws_before.mono _ _ _
      | exact laws_cells.mono _ _
      | exact laws_has.mono _ _ _
      | exact laws_sum.mono _ _
      | exact spec_MakeShape.mono _ _ _ _ _ _
      | exact spec_MakeShapes.mono _ _ _ _
      | exact spec_MakeSize.mono _ _ _ _ _
      | exact LeO.none _
      | refine LeO.ite ?_ ?_
      | refine LeO.bind ?_ (fun _ => ?_)
    · intro y0 y1 y2 y3
      unfold laws_FnNests.j4
      repeat' first
      | (with_reducible exact ih0 _ _ _ _ _ _ _ _)
      | (with_reducible exact ih1 _ _ _ _ _ _ _ _ _ _)
      | (with_reducible exact ih2 _ _ _ _)
      | (with_reducible exact ih3 _ _ _ _ _)
      | (with_reducible exact ih4 _ _ _ _ _ _)
      | (with_reducible exact ih5 _ _ _ _)
      | (with_reducible exact ih6 _ _ _ _ _ _ _ _ _)
      | (with_reducible exact ih7 _ _ _ _ _ _ _ _ _ _)
      | (with_reducible exact impl_CornerOf.mono _ _ _ _)
      | (with_reducible exact impl_CountNests.mono _ _ _ _ _)
      | (with_reducible exact impl_FitsHow.mono _ _ _ _ _)
      | (with_reducible exact impl_FreeOf.mono _ _ _ _)
      | (with_reducible exact impl_Layings.mono _ _ _ _ _ _)
      | (with_reducible exact impl_NestAll.mono _ _ _ _ _)
      | (with_reducible exact impl_NestGreedy.mono _ _ _ _ _)
      | (with_reducible exact impl_NestOk.mono _ _ _ _)
      | (with_reducible exact impl_SamePiece.mono _ _ _ _ _)
      | (with_reducible exact laws_before.mono _ _ _)
      | (with_reducible exact laws_cells.mono _ _)
      | (with_reducible exact laws_has.mono _ _ _)
      | (with_reducible exact laws_sum.mono _ _)
      | (with_reducible exact spec_MakeShape.mono _ _ _ _ _ _)
      | (with_reducible exact spec_MakeShapes.mono _ _ _ _)
      | (with_reducible exact spec_MakeSize.mono _ _ _ _ _)
      | (with_reducible exact LeO.refl _)
      | (with_reducible exact LeO.none _)
      | (with_reducible refine LeO.ite ?_ ?_)
      | (with_reducible refine LeO.bind ?_ (fun _ => ?_))
      | exact ih0 _ _ _ _ _ _ _ _
      | exact ih1 _ _ _ _ _ _ _ _ _ _
      | exact ih2 _ _ _ _
      | exact ih3 _ _ _ _ _
      | exact ih4 _ _ _ _ _ _
      | exact ih5 _ _ _ _
      | exact ih6 _ _ _ _ _ _ _ _ _
      | exact ih7 _ _ _ _ _ _ _ _ _ _
      | exact impl_CornerOf.mono _ _ _ _
      | exact impl_CountNests.mono _ _ _ _ _
      | exact impl_FitsHow.mono _ _ _ _ _
      | exact impl_FreeOf.mono _ _ _ _
      | exact impl_Layings.mono _ _ _ _ _ _
      | exact impl_NestAll.mono _ _ _ _ _
      | exact impl_NestGreedy.mono _ _ _ _ _
      | exact impl_NestOk.mono _ _ _ _
      | exact impl_SamePiece.mono _ _ _ _ _
      | exact laws_before.mono _ _ _
      | exact laws_cells.mono _ _
      | exact laws_has.mono _ _ _
      | exact laws_sum.mono _ _
      | exact spec_MakeShape.mono _ _ _ _ _ _
      | exact spec_MakeShapes.mono _ _ _ _
      | exact spec_MakeSize.mono _ _ _ _ _
      | exact LeO.none _
      | refine LeO.ite ?_ ?_
      | refine LeO.bind ?_ (fun _ => ?_)
    · intro y0 y1 y2 y3 y4
      unfold laws_FnNests.j5
      repeat' first
      | (with_reducible exact ih0 _ _ _ _ _ _ _ _)
      | (with_reducible exact ih1 _ _ _ _ _ _ _ _ _ _)
      | (with_reducible exact ih2 _ _ _ _)
      | (with_reducible exact ih3 _ _ _ _ _)
      | (with_reducible exact ih4 _ _ _ _ _ _)
      | (with_reducible exact ih5 _ _ _ _)
      | (with_reducible exact ih6 _ _ _ _ _ _ _ _ _)
      | (with_reducible exact ih7 _ _ _ _ _ _ _ _ _ _)
      | (with_reducible exact impl_CornerOf.mono _ _ _ _)
      | (with_reducible exact impl_CountNests.mono _ _ _ _ _)
      | (with_reducible exact impl_FitsHow.mono _ _ _ _ _)
      | (with_reducible exact impl_FreeOf.mono _ _ _ _)
      | (with_reducible exact impl_Layings.mono _ _ _ _ _ _)
      | (with_reducible exact impl_NestAll.mono _ _ _ _ _)
      | (with_reducible exact impl_NestGreedy.mono _ _ _ _ _)
      | (with_reducible exact impl_NestOk.mono _ _ _ _)
      | (with_reducible exact impl_SamePiece.mono _ _ _ _ _)
      | (with_reducible exact laws_before.mono _ _ _)
      | (with_reducible exact laws_cells.mono _ _)
      | (with_reducible exact laws_has.mono _ _ _)
      | (with_reducible exact laws_sum.mono _ _)
      | (with_reducible exact spec_MakeShape.mono _ _ _ _ _ _)
      | (with_reducible exact spec_MakeShapes.mono _ _ _ _)
      | (with_reducible exact spec_MakeSize.mono _ _ _ _ _)
      | (with_reducible exact LeO.refl _)
      | (with_reducible exact LeO.none _)
      | (with_reducible refine LeO.ite ?_ ?_)
      | (with_reducible refine LeO.bind ?_ (fun _ => ?_))
      | exact ih0 _ _ _ _ _ _ _ _
      | exact ih1 _ _ _ _ _ _ _ _ _ _
      | exact ih2 _ _ _ _
      | exact ih3 _ _ _ _ _
      | exact ih4 _ _ _ _ _ _
      | exact ih5 _ _ _ _
      | exact ih6 _ _ _ _ _ _ _ _ _
      | exact ih7 _ _ _ _ _ _ _ _ _ _
      | exact impl_CornerOf.mono _ _ _ _
      | exact impl_CountNests.mono _ _ _ _ _
      | exact impl_FitsHow.mono _ _ _ _ _
      | exact impl_FreeOf.mono _ _ _ _
      | exact impl_Layings.mono _ _ _ _ _ _
      | exact impl_NestAll.mono _ _ _ _ _
      | exact impl_NestGreedy.mono _ _ _ _ _
      | exact impl_NestOk.mono _ _ _ _
      | exact impl_SamePiece.mono _ _ _ _ _
      | exact laws_before.mono _ _ _
      | exact laws_cells.mono _ _
      | exact laws_has.mono _ _ _
      | exact laws_sum.mono _ _
      | exact spec_MakeShape.mono _ _ _ _ _ _
      | exact spec_MakeShapes.mono _ _ _ _
      | exact spec_MakeSize.mono _ _ _ _ _
      | exact LeO.none _
      | refine LeO.ite ?_ ?_
      | refine LeO.bind ?_ (fun _ => ?_)
    · intro y0 y1 y2 y3 y4 y5
      unfold laws_FnNests.l1
      repeat' first
      | (with_reducible exact ih0 _ _ _ _ _ _ _ _)
      | (with_reducible exact ih1 _ _ _ _ _ _ _ _ _ _)
      | (with_reducible exact ih2 _ _ _ _)
      | (with_reducible exact ih3 _ _ _ _ _)
      | (with_reducible exact ih4 _ _ _ _ _ _)
      | (with_reducible exact ih5 _ _ _ _)
      | (with_reducible exact ih6 _ _ _ _ _ _ _ _ _)
      | (with_reducible exact ih7 _ _ _ _ _ _ _ _ _ _)
      | (with_reducible exact impl_CornerOf.mono _ _ _ _)
      | (with_reducible exact impl_CountNests.mono _ _ _ _ _)
      | (with_reducible exact impl_FitsHow.mono _ _ _ _ _)
      | (with_reducible exact impl_FreeOf.mono _ _ _ _)
      | (with_reducible exact impl_Layings.mono _ _ _ _ _ _)
      | (with_reducible exact impl_NestAll.mono _ _ _ _ _)
      | (with_reducible exact impl_NestGreedy.mono _ _ _ _ _)
      | (with_reducible exact impl_NestOk.mono _ _ _ _)
      | (with_reducible exact impl_SamePiece.mono _ _ _ _ _)
      | (with_reducible exact laws_before.mono _ _ _)
      | (with_reducible exact laws_cells.mono _ _)
      | (with_reducible exact laws_has.mono _ _ _)
      | (with_reducible exact laws_sum.mono _ _)
      | (with_reducible exact spec_MakeShape.mono _ _ _ _ _ _)
      | (with_reducible exact spec_MakeShapes.mono _ _ _ _)
      | (with_reducible exact spec_MakeSize.mono _ _ _ _ _)
      | (with_reducible exact LeO.refl _)
      | (with_reducible exact LeO.none _)
      | (with_reducible refine LeO.ite ?_ ?_)
      | (with_reducible refine LeO.bind ?_ (fun _ => ?_))
      | exact ih0 _ _ _ _ _ _ _ _
      | exact ih1 _ _ _ _ _ _ _ _ _ _
      | exact ih2 _ _ _ _
      | exact ih3 _ _ _ _ _
      | exact ih4 _ _ _ _ _ _
      | exact ih5 _ _ _ _
      | exact ih6 _ _ _ _ _ _ _ _ _
      | exact ih7 _ _ _ _ _ _ _ _ _ _
      | exact impl_CornerOf.mono _ _ _ _
      | exact impl_CountNests.mono _ _ _ _ _
      | exact impl_FitsHow.mono _ _ _ _ _
      | exact impl_FreeOf.mono _ _ _ _
      | exact impl_Layings.mono _ _ _ _ _ _
      | exact impl_NestAll.mono _ _ _ _ _
      | exact impl_NestGreedy.mono _ _ _ _ _
      | exact impl_NestOk.mono _ _ _ _
      | exact impl_SamePiece.mono _ _ _ _ _
      | exact laws_before.mono _ _ _
      | exact laws_cells.mono _ _
      | exact laws_has.mono _ _ _
      | exact laws_sum.mono _ _
      | exact spec_MakeShape.mono _ _ _ _ _ _
      | exact spec_MakeShapes.mono _ _ _ _
      | exact spec_MakeSize.mono _ _ _ _ _
      | exact LeO.none _
      | refine LeO.ite ?_ ?_
      | refine LeO.bind ?_ (fun _ => ?_)
    · intro y0 y1 y2 y3
      unfold laws_FnNests.l2
      repeat' first
      | (with_reducible exact ih0 _ _ _ _ _ _ _ _)
      | (with_reducible exact ih1 _ _ _ _ _ _ _ _ _ _)
      | (with_reducible exact ih2 _ _ _ _)
      | (with_reducible exact ih3 _ _ _ _ _)
      | (with_reducible exact ih4 _ _ _ _ _ _)
      | (with_reducible exact ih5 _ _ _ _)
      | (with_reducible exact ih6 _ _ _ _ _ _ _ _ _)
      | (with_reducible exact ih7 _ _ _ _ _ _ _ _ _ _)
      | (with_reducible exact impl_CornerOf.mono _ _ _ _)
      | (with_reducible exact impl_CountNests.mono _ _ _ _ _)
      | (with_reducible exact impl_FitsHow.mono _ _ _ _ _)
      | (with_reducible exact impl_FreeOf.mono _ _ _ _)
      | (with_reducible exact impl_Layings.mono _ _ _ _ _ _)
      | (with_reducible exact impl_NestAll.mono _ _ _ _ _)
      | (with_reducible exact impl_NestGreedy.mono _ _ _ _ _)
      | (with_reducible exact impl_NestOk.mono _ _ _ _)
      | (with_reducible exact impl_SamePiece.mono _ _ _ _ _)
      | (with_reducible exact laws_before.mono _ _ _)
      | (with_reducible exact laws_cells.mono _ _)
      | (with_reducible exact laws_has.mono _ _ _)
      | (with_reducible exact laws_sum.mono _ _)
      | (with_reducible exact spec_MakeShape.mono _ _ _ _ _ _)
      | (with_reducible exact spec_MakeShapes.mono _ _ _ _)
      | (with_reducible exact spec_MakeSize.mono _ _ _ _ _)
      | (with_reducible exact LeO.refl _)
      | (with_reducible exact LeO.none _)
      | (with_reducible refine LeO.ite ?_ ?_)
      | (with_reducible refine LeO.bind ?_ (fun _ => ?_))
      | exact ih0 _ _ _ _ _ _ _ _
      | exact ih1 _ _ _ _ _ _ _ _ _ _
      | exact ih2 _ _ _ _
      | exact ih3 _ _ _ _ _
      | exact ih4 _ _ _ _ _ _
      | exact ih5 _ _ _ _
      | exact ih6 _ _ _ _ _ _ _ _ _
      | exact ih7 _ _ _ _ _ _ _ _ _ _
      | exact impl_CornerOf.mono _ _ _ _
      | exact impl_CountNests.mono _ _ _ _ _
      | exact impl_FitsHow.mono _ _ _ _ _
      | exact impl_FreeOf.mono _ _ _ _
      | exact impl_Layings.mono _ _ _ _ _ _
      | exact impl_NestAll.mono _ _ _ _ _
      | exact impl_NestGreedy.mono _ _ _ _ _
      | exact impl_NestOk.mono _ _ _ _
      | exact impl_SamePiece.mono _ _ _ _ _
      | exact laws_before.mono _ _ _
      | exact laws_cells.mono _ _
      | exact laws_has.mono _ _ _
      | exact laws_sum.mono _ _
      | exact spec_MakeShape.mono _ _ _ _ _ _
      | exact spec_MakeShapes.mono _ _ _ _
      | exact spec_MakeSize.mono _ _ _ _ _
      | exact LeO.none _
      | refine LeO.ite ?_ ?_
      | refine LeO.bind ?_ (fun _ => ?_)
    · intro y0 y1 y2 y3 y4 y5 y6 y7 y8
      unfold laws_FnNests.j2
      repeat' first
      | (with_reducible exact ih0 _ _ _ _ _ _ _ _)
      | (with_reducible exact ih1 _ _ _ _ _ _ _ _ _ _)
      | (with_reducible exact ih2 _ _ _ _)
      | (with_reducible exact ih3 _ _ _ _ _)
      | (with_reducible exact ih4 _ _ _ _ _ _)
      | (with_reducible exact ih5 _ _ _ _)
      | (with_reducible exact ih6 _ _ _ _ _ _ _ _ _)
      | (with_reducible exact ih7 _ _ _ _ _ _ _ _ _ _)
      | (with_reducible exact impl_CornerOf.mono _ _ _ _)
      | (with_reducible exact impl_CountNests.mono _ _ _ _ _)
      | (with_reducible exact impl_FitsHow.mono _ _ _ _ _)
      | (with_reducible exact impl_FreeOf.mono _ _ _ _)
      | (with_reducible exact impl_Layings.mono _ _ _ _ _ _)
      | (with_reducible exact impl_NestAll.mono _ _ _ _ _)
      | (with_reducible exact impl_NestGreedy.mono _ _ _ _ _)
      | (with_reducible exact impl_NestOk.mono _ _ _ _)
      | (with_reducible exact impl_SamePiece.mono _ _ _ _ _)
      | (with_reducible exact laws_before.mono _ _ _)
      | (with_reducible exact laws_cells.mono _ _)
      | (with_reducible exact laws_has.mono _ _ _)
      | (with_reducible exact laws_sum.mono _ _)
      | (with_reducible exact spec_MakeShape.mono _ _ _ _ _ _)
      | (with_reducible exact spec_MakeShapes.mono _ _ _ _)
      | (with_reducible exact spec_MakeSize.mono _ _ _ _ _)
      | (with_reducible exact LeO.refl _)
      | (with_reducible exact LeO.none _)
      | (with_reducible refine LeO.ite ?_ ?_)
      | (with_reducible refine LeO.bind ?_ (fun _ => ?_))
      | exact ih0 _ _ _ _ _ _ _ _
      | exact ih1 _ _ _ _ _ _ _ _ _ _
      | exact ih2 _ _ _ _
      | exact ih3 _ _ _ _ _
      | exact ih4 _ _ _ _ _ _
      | exact ih5 _ _ _ _
      | exact ih6 _ _ _ _ _ _ _ _ _
      | exact ih7 _ _ _ _ _ _ _ _ _ _
      | exact impl_CornerOf.mono _ _ _ _
      | exact impl_CountNests.mono _ _ _ _ _
      | exact impl_FitsHow.mono _ _ _ _ _
      | exact impl_FreeOf.mono _ _ _ _
      | exact impl_Layings.mono _ _ _ _ _ _
      | exact impl_NestAll.mono _ _ _ _ _
      | exact impl_NestGreedy.mono _ _ _ _ _
      | exact impl_NestOk.mono _ _ _ _
      | exact impl_SamePiece.mono _ _ _ _ _
      | exact laws_before.mono _ _ _
      | exact laws_cells.mono _ _
      | exact laws_has.mono _ _ _
      | exact laws_sum.mono _ _
      | exact spec_MakeShape.mono _ _ _ _ _ _
      | exact spec_MakeShapes.mono _ _ _ _
      | exact spec_MakeSize.mono _ _ _ _ _
      | exact LeO.none _
      | refine LeO.ite ?_ ?_
      | refine LeO.bind ?_ (fun _ => ?_)
    · intro y0 y1 y2 y3 y4 y5 y6 y7 y8 y9
      unfold laws_FnNests.l0
      repeat' first
      | (with_reducible exact ih0 _ _ _ _ _ _ _ _)
      | (with_reducible exact ih1 _ _ _ _ _ _ _ _ _ _)
      | (with_reducible exact ih2 _ _ _ _)
      | (with_reducible exact ih3 _ _ _ _ _)
      | (with_reducible exact ih4 _ _ _ _ _ _)
      | (with_reducible exact ih5 _ _ _ _)
      | (with_reducible exact ih6 _ _ _ _ _ _ _ _ _)
      | (with_reducible exact ih7 _ _ _ _ _ _ _ _ _ _)
      | (with_reducible exact impl_CornerOf.mono _ _ _ _)
      | (with_reducible exact impl_CountNests.mono _ _ _ _ _)
      | (with_reducible exact impl_FitsHow.mono _ _ _ _ _)
      | (with_reducible exact impl_FreeOf.mono _ _ _ _)
      | (with_reducible exact impl_Layings.mono _ _ _ _ _ _)
      | (with_reducible exact impl_NestAll.mono _ _ _ _ _)
      | (with_reducible exact impl_NestGreedy.mono _ _ _ _ _)
      | (with_reducible exact impl_NestOk.mono _ _ _ _)
      | (with_reducible exact impl_SamePiece.mono _ _ _ _ _)
      | (with_reducible exact laws_before.mono _ _ _)
      | (with_reducible exact laws_cells.mono _ _)
      | (with_reducible exact laws_has.mono _ _ _)
      | (with_reducible exact laws_sum.mono _ _)
      | (with_reducible exact spec_MakeShape.mono _ _ _ _ _ _)
      | (with_reducible exact spec_MakeShapes.mono _ _ _ _)
      | (with_reducible exact spec_MakeSize.mono _ _ _ _ _)
      | (with_reducible exact LeO.refl _)
      | (with_reducible exact LeO.none _)
      | (with_reducible refine LeO.ite ?_ ?_)
      | (with_reducible refine LeO.bind ?_ (fun _ => ?_))
      | exact ih0 _ _ _ _ _ _ _ _
      | exact ih1 _ _ _ _ _ _ _ _ _ _
      | exact ih2 _ _ _ _
      | exact ih3 _ _ _ _ _
      | exact ih4 _ _ _ _ _ _
      | exact ih5 _ _ _ _
      | exact ih6 _ _ _ _ _ _ _ _ _
      | exact ih7 _ _ _ _ _ _ _ _ _ _
      | exact impl_CornerOf.mono _ _ _ _
      | exact impl_CountNests.mono _ _ _ _ _
      | exact impl_FitsHow.mono _ _ _ _ _
      | exact impl_FreeOf.mono _ _ _ _
      | exact impl_Layings.mono _ _ _ _ _ _
      | exact impl_NestAll.mono _ _ _ _ _
      | exact impl_NestGreedy.mono _ _ _ _ _
      | exact impl_NestOk.mono _ _ _ _
      | exact impl_SamePiece.mono _ _ _ _ _
      | exact laws_before.mono _ _ _
      | exact laws_cells.mono _ _
      | exact laws_has.mono _ _ _
      | exact laws_sum.mono _ _
      | exact spec_MakeShape.mono _ _ _ _ _ _
      | exact spec_MakeShapes.mono _ _ _ _
      | exact spec_MakeSize.mono _ _ _ _ _
      | exact LeO.none _
      | refine LeO.ite ?_ ?_
      | refine LeO.bind ?_ (fun _ => ?_)
theorem laws_FnNests.mono : ∀ a0 k, LeO (laws_FnNests.f k a0) (laws_FnNests.f (k + 1) a0) := by
  intro a0 k
  obtain ⟨ih0, ih1, ih2, ih3, ih4, ih5, ih6, ih7⟩ := laws_FnNests.mono_l k
  unfold laws_FnNests.f
  repeat' first
      | (with_reducible exact ih0 _ _ _ _ _ _ _ _)
      | (with_reducible exact ih1 _ _ _ _ _ _ _ _ _ _)
      | (with_reducible exact ih2 _ _ _ _)
      | (with_reducible exact ih3 _ _ _ _ _)
      | (with_reducible exact ih4 _ _ _ _ _ _)
      | (with_reducible exact ih5 _ _ _ _)
      | (with_reducible exact ih6 _ _ _ _ _ _ _ _ _)
      | (with_reducible exact ih7 _ _ _ _ _ _ _ _ _ _)
      | (with_reducible exact impl_CornerOf.mono _ _ _ _)
      | (with_reducible exact impl_CountNests.mono _ _ _ _ _)
      | (with_reducible exact impl_FitsHow.mono _ _ _ _ _)
      | (with_reducible exact impl_FreeOf.mono _ _ _ _)
      | (with_reducible exact impl_Layings.mono _ _ _ _ _ _)
      | (with_reducible exact impl_NestAll.mono _ _ _ _ _)
      | (with_reducible exact impl_NestGreedy.mono _ _ _ _ _)
      | (with_reducible exact impl_NestOk.mono _ _ _ _)
      | (with_reducible exact impl_SamePiece.mono _ _ _ _ _)
      | (with_reducible exact laws_before.mono _ _ _)
      | (with_reducible exact laws_cells.mono _ _)
      | (with_reducible exact laws_has.mono _ _ _)
      | (with_reducible exact laws_sum.mono _ _)
      | (with_reducible exact spec_MakeShape.mono _ _ _ _ _ _)
      | (with_reducible exact spec_MakeShapes.mono _ _ _ _)
      | (with_reducible exact spec_MakeSize.mono _ _ _ _ _)
      | (with_reducible exact LeO.refl _)
      | (with_reducible exact LeO.none _)
      | (with_reducible refine LeO.ite ?_ ?_)
      | (with_reducible refine LeO.bind ?_ (fun _ => ?_))
      | exact ih0 _ _ _ _ _ _ _ _
      | exact ih1 _ _ _ _ _ _ _ _ _ _
      | exact ih2 _ _ _ _
      | exact ih3 _ _ _ _ _
      | exact ih4 _ _ _ _ _ _
      | exact ih5 _ _ _ _
      | exact ih6 _ _ _ _ _ _ _ _ _
      | exact ih7 _ _ _ _ _ _ _ _ _ _
      | exact impl_CornerOf.mono _ _ _ _
      | exact impl_CountNests.mono _ _ _ _ _
      | exact impl_FitsHow.mono _ _ _ _ _
      | exact impl_FreeOf.mono _ _ _ _
      | exact impl_Layings.mono _ _ _ _ _ _
      | exact impl_NestAll.mono _ _ _ _ _
      | exact impl_NestGreedy.mono _ _ _ _ _
      | exact impl_NestOk.mono _ _ _ _
      | exact impl_SamePiece.mono _ _ _ _ _
      | exact laws_before.mono _ _ _
      | exact laws_cells.mono _ _
      | exact laws_has.mono _ _ _
      | exact laws_sum.mono _ _
      | exact spec_MakeShape.mono _ _ _ _ _ _
      | exact spec_MakeShapes.mono _ _ _ _
      | exact spec_MakeSize.mono _ _ _ _ _
      | exact LeO.none _
      | refine LeO.ite ?_ ?_
      | refine LeO.bind ?_ (fun _ => ?_)
end Go.Proofs.Ytpnngdljfnhnfaa.XFnNests
