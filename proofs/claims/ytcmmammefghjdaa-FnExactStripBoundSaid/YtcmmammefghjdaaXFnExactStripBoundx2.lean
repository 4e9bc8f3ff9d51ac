/- What functions of the program compute, as plain Lean functions, and that Go's calls come to just that: written by wip/tools/xprint.py for the law FnExactStripBound. -/
import Derived.Test.YtcmmammefghjdaaXFnExactStripBoundx0
import Derived.Test.YtcmmammefghjdaaXFnExactStripBoundx1
namespace Go.Proofs.Ytcmmammefghjdaa.XFnExactStripBound
open Go.RowKit Go.Proofs.YtcmmammefghjdaaW.PrintWords Go.Proofs.YtcmmammefghjdaaW.PrintLast Go.Proofs.YtcmmammefghjdaaW.PrintMore
attribute [local go_sem] max2_int min2_int max_two min_two max_three min_three max_four min_four   -- for this text's walks alone
set_option linter.unusedVariables false
set_option linter.unusedSimpArgs false

/-! ### spec_PiecesFit: function 56 -/
mutual
def spec_PiecesFit.j0 : Nat → Int → List (List Int) → Bool → Option (Bool)
  | 0, _, _, _ => none
  | k + 1, x0, x1, x14 => if x14 = true then (some false) else (spec_PiecesFit.l0 k x0 x1 (x1.length : Int) 0)
def spec_PiecesFit.l0 : Nat → Int → List (List Int) → Int → Int → Option (Bool)
  | 0, _, _, _, _ => none
  | k + 1, x0, x15, x16, x17 => if x17 < x16 then (if 0 ≤ x17 then (if x17 < (x15.length : Int) then (if ((rd_L1 x15 x17).length : Int) = 2 then (if 0 < ((rd_L1 x15 x17).length : Int) then ((spec_l01In.f (rd (rd_L1 x15 x17) 0) 1 x0).bind fun t124 => (if t124 = true then (if 1 < ((rd_L1 x15 x17).length : Int) then ((spec_l01In.f (rd (rd_L1 x15 x17) 1) 1 100).bind fun t126 => (if t126 = true then (spec_PiecesFit.l0 k x0 x15 x16 (wrap64 (x17 + 1))) else (some false))) else (none)) else (some false))) else (none)) else (some false)) else (none)) else (none)) else (some true)
end
def spec_PiecesFit.f (k : Nat) (a0 : Int) (l1 : List (List Int)) : Option (Bool) := (spec_l01In.f a0 1 100).bind fun t121 => (if t121 = true then (spec_PiecesFit.j0 k a0 l1 (decide ((l1.length : Int) > 12))) else (spec_PiecesFit.j0 k a0 l1 true))
theorem spec_PiecesFit.mono_l : ∀ k, (∀ y0 y1 y2, LeO (spec_PiecesFit.j0 k y0 y1 y2) (spec_PiecesFit.j0 (k + 1) y0 y1 y2)) ∧ (∀ y0 y1 y2 y3, LeO (spec_PiecesFit.l0 k y0 y1 y2 y3) (spec_PiecesFit.l0 (k + 1) y0 y1 y2 y3))
  | 0 => ⟨fun _ _ _ r h => by simp [spec_PiecesFit.j0] at h, fun _ _ _ _ r h => by simp [spec_PiecesFit.l0] at h⟩
  | k + 1 => by
    obtain ⟨ih0, ih1⟩ := spec_PiecesFit.mono_l k
    refine ⟨?_, ?_⟩
    · intro y0 y1 y2
      unfold spec_PiecesFit.j0
      repeat' first
      | (with_reducible exact ih0 _ _ _)
      | (with_reducible exact ih1 _ _ _ _)
      | (with_reducible exact LeO.refl _)
      | (with_reducible exact LeO.none _)
      | (with_reducible refine LeO.ite ?_ ?_)
      | (with_reducible refine LeO.bind ?_ (fun _ => ?_))
      | exact ih0 _ _ _
      | exact ih1 _ _ _ _
      | exact LeO.none _
      | refine LeO.ite ?_ ?_
      | refine LeO.bind ?_ (fun _ => ?_)
    · intro y0 y1 y2 y3
      unfold spec_PiecesFit.l0
      repeat' first
      | (with_reducible exact ih0 _ _ _)
      | (with_reducible exact ih1 _ _ _ _)
      | (with_reducible exact LeO.refl _)
      | (with_reducible exact LeO.none _)
      | (with_reducible refine LeO.ite ?_ ?_)
      | (with_reducible refine LeO.bind ?_ (fun _ => ?_))
      | exact ih0 _ _ _
      | exact ih1 _ _ _ _
      | exact LeO.none _
      | refine LeO.ite ?_ ?_
      | refine LeO.bind ?_ (fun _ => ?_)
theorem spec_PiecesFit.mono : ∀ a0 a1 k, LeO (spec_PiecesFit.f k a0 a1) (spec_PiecesFit.f (k + 1) a0 a1) := by
  intro a0 a1 k
  obtain ⟨ih0, ih1⟩ := spec_PiecesFit.mono_l k
  unfold spec_PiecesFit.f
  repeat' first
      | (with_reducible exact ih0 _ _ _)
      | (with_reducible exact ih1 _ _ _ _)
      | (with_reducible exact LeO.refl _)
      | (with_reducible exact LeO.none _)
      | (with_reducible refine LeO.ite ?_ ?_)
      | (with_reducible refine LeO.bind ?_ (fun _ => ?_))
      | exact ih0 _ _ _
      | exact ih1 _ _ _ _
      | exact LeO.none _
      | refine LeO.ite ?_ ?_
      | refine LeO.bind ?_ (fun _ => ?_)
set_option maxHeartbeats 8000000 in
set_option maxRecDepth 100000 in
theorem spec_PiecesFit.calls (k : Nat) (a0 : Int) (A1 : Option Addr) (c1 : Nat) (l1 : List (List Int)) (r : Bool) (w : World) (hr1 : Kd.C (Kd.slice 3 (Kd.int .i64)) w A1 l1.length l1) (hc1 : l1.length ≤ c1) (h : spec_PiecesFit.f k a0 l1 = some r) :
    Calls Try.prog 56 #[.int .i64 a0, .slice A1 l1.length c1] w fun e w' => e = .returned (.bool r) ∧ Drawn0 w w' := by
  have HR1 := Aside0.mk hr1
  have HC1 := Aside0.mk hc1
  clear hr1 hc1
  have H : ((spec_l01In.f a0 1 100).bind fun t121 => (if t121 = true then (spec_PiecesFit.j0 k a0 l1 (decide ((l1.length : Int) > 12))) else (spec_PiecesFit.j0 k a0 l1 true))) = some r := h
  clear h
  have HC3 := Aside0.mk H
  clear H
  go_enter Try.func56, Try.ntmps56
  go_upto_region 1 with (fail)
  go_cut [14] (fun v14 wc => ∃ (kq : Nat) (x14_2 : Bool), v14 = .bool x14_2 ∧ Aside0 (spec_PiecesFit.j0 kq a0 l1 x14_2 = some r) ∧ Aside0 (kq ≤ k) ∧ Drawn0 w wc)
  case first =>
    have H := HC3.out
    clear HC3
    replace H := Option.bind_eq_some_iff.mp H
    obtain ⟨t121, A40, H⟩ := H
    replace H : (if t121 = true then (spec_PiecesFit.j0 k a0 l1 (decide ((l1.length : Int) > 12))) else (spec_PiecesFit.j0 k a0 l1 true)) = some r := H
    have A4 := Aside0.mk A40
    clear A40
    by_cases c5 : t121 = true
    · subst c5
      have H1 : (spec_PiecesFit.j0 k a0 l1 (decide ((l1.length : Int) > 12))) = some r := by rw [if_pos rfl] at H; exact H
      clear H
      have H := H1
      clear H1
      have H' := Aside0.mk H
      clear H
      go_wp2_with (first | ((with_reducible refine gate_callee (f := 57) rfl ?_); refine goesL_ (some 8) rfl rfl Try.func57 (by kernel_rfl) rfl #[.int .i64 a0, .int .i64 1, .int .i64 100] rfl (by (try simp only [List.map_toArray, List.map_cons, List.map_nil]); first | done | rfl | (simp only [List.length_drop, List.length_take]; rfl)) ?_; (with_reducible refine (spec_l01In.calls a0 1 100 true _ A4.out).mono ?_); rintro e w' ⟨rfl, ⟨nd, rfl⟩⟩; refine ⟨_, rfl, ?_⟩))
      go_meet
      case rel => exact ⟨_, (decide ((l1.length : Int) > 12)), (by first | rfl | (simp; done) | (simp [*]; done)), H', ⟨by first | omega | exact Nat.le_refl _⟩, by repeat (first | exact Drawn0.refl _ | apply Drawn0.step)⟩
    · replace c5 := Bool.eq_false_iff.mpr c5
      subst c5
      have H1 : (spec_PiecesFit.j0 k a0 l1 true) = some r := by rw [if_neg (show ¬ (false = true) by decide)] at H; exact H
      clear H
      have H := H1
      clear H1
      have H' := Aside0.mk H
      clear H
      go_wp2_with (first | ((with_reducible refine gate_callee (f := 57) rfl ?_); refine goesL_ (some 8) rfl rfl Try.func57 (by kernel_rfl) rfl #[.int .i64 a0, .int .i64 1, .int .i64 100] rfl (by (try simp only [List.map_toArray, List.map_cons, List.map_nil]); first | done | rfl | (simp only [List.length_drop, List.length_take]; rfl)) ?_; (with_reducible refine (spec_l01In.calls a0 1 100 false _ A4.out).mono ?_); rintro e w' ⟨rfl, ⟨nd, rfl⟩⟩; refine ⟨_, rfl, ?_⟩))
      go_meet
      case rel => exact ⟨_, (true), (by first | rfl | (simp; done) | (simp [*]; done)), H', ⟨by first | omega | exact Nat.le_refl _⟩, by repeat (first | exact Drawn0.refl _ | apply Drawn0.step)⟩
  case rest =>
    clear HC3
    try clear c1
    try clear p2
    try clear c5
    obtain ⟨kq, x14_2, rfl, HA, HJ2, ⟨mc2, rfl⟩⟩ := hcut
    cases kq with
    | zero => exact absurd HA.out (by simp [spec_PiecesFit.j0])
    | succ kj2 =>
      have H := HA.out
      clear HA
      simp only [spec_PiecesFit.j0] at H
      by_cases c6 : x14_2 = true
      · subst c6
        have H1 : (some false) = some r := by rw [if_pos rfl] at H; exact H
        clear H
        have H := H1
        clear H1
        obtain rfl := Option.some.inj H
        go_wp2
        go_ret
        exact ⟨by first | rfl | (simp; done) | (simp [*]; done), by repeat (first | exact Drawn0.refl _ | apply Drawn0.step)⟩
      · replace c6 := Bool.eq_false_iff.mpr c6
        subst c6
        have H1 : (spec_PiecesFit.l0 kj2 a0 l1 (l1.length : Int) 0) = some r := by rw [if_neg (show ¬ (false = true) by decide)] at H; exact H
        clear H
        have H := H1
        clear H1
        have H' := Aside0.mk H
        clear H
        go_wp2
        go_loopg [17] kj2 (fun kq v17 w' => ∃ (x17_2 : Int), v17 = .int .i64 x17_2 ∧ Aside0 (spec_PiecesFit.l0 kq a0 l1 (l1.length : Int) x17_2 = some r) ∧ Aside0 (kq ≤ kj2) ∧ Drawn0 w w')
        case atStart => exact ⟨(0), (by first | rfl | (simp; done) | (simp [*]; done)), H', ⟨Nat.le_refl _⟩, by repeat (first | exact Drawn0.refl _ | apply Drawn0.step)⟩
        case round =>
          clear H'
          try clear c1
          try clear c2
          try clear p2
          try clear c5
          try clear c6
          try clear p2
          obtain ⟨x17_2, rfl, HA, HK2, ⟨m2, rfl⟩⟩ := hrel
          cases gk with
          | zero => exact absurd HA.out (by simp [spec_PiecesFit.l0])
          | succ k2 =>
            have H := HA.out
            clear HA
            simp only [spec_PiecesFit.l0] at H
            by_cases c7 : x17_2 < (l1.length : Int)
            · rw [if_pos c7] at H
              have c7b0 : decide (x17_2 < (l1.length : Int)) = true := decide_eq_true c7
              clear c7
              by_cases c8 : 0 ≤ x17_2
              · rw [if_pos c8] at H
                have c8b0 : decide (0 ≤ x17_2) = true := decide_eq_true c8
                clear c8
                by_cases c9 : x17_2 < (l1.length : Int)
                · rw [if_pos c9] at H
                  have c9b0 : decide (x17_2 < (l1.length : Int)) = true := decide_eq_true c9
                  clear c9
                  by_cases c10 : ((rd_L1 l1 x17_2).length : Int) = 2
                  · rw [if_pos c10] at H
                    have c10b0 : (((rd_L1 l1 x17_2).length : Int) == 2) = true := beq_iff_eq.mpr c10
                    have c10b1 : (((rd_L1 l1 x17_2).length : Int) != 2) = false := bne_eq_false_iff_eq.mpr c10
                    clear c10
                    by_cases c11 : 0 < ((rd_L1 l1 x17_2).length : Int)
                    · rw [if_pos c11] at H
                      have c11b0 : decide (0 < ((rd_L1 l1 x17_2).length : Int)) = true := decide_eq_true c11
                      have c11b1 : decide (0 < (rd_L1 l1 x17_2).length) = true := decide_eq_true (by omega)
                      clear c11
                      replace H := Option.bind_eq_some_iff.mp H
                      obtain ⟨t124, A120, H⟩ := H
                      replace H : (if t124 = true then (if 1 < ((rd_L1 l1 x17_2).length : Int) then ((spec_l01In.f (rd (rd_L1 l1 x17_2) 1) 1 100).bind fun t126 => (if t126 = true then (spec_PiecesFit.l0 k2 a0 l1 (l1.length : Int) (wrap64 (x17_2 + 1))) else (some false))) else (none)) else (some false)) = some r := H
                      have A12 := Aside0.mk A120
                      clear A120
                      by_cases c13 : t124 = true
                      · subst c13
                        have H1 : (if 1 < ((rd_L1 l1 x17_2).length : Int) then ((spec_l01In.f (rd (rd_L1 l1 x17_2) 1) 1 100).bind fun t126 => (if t126 = true then (spec_PiecesFit.l0 k2 a0 l1 (l1.length : Int) (wrap64 (x17_2 + 1))) else (some false))) else (none)) = some r := by rw [if_pos rfl] at H; exact H
                        clear H
                        have H := H1
                        clear H1
                        by_cases c14 : 1 < ((rd_L1 l1 x17_2).length : Int)
                        · rw [if_pos c14] at H
                          have c14b0 : decide (1 < ((rd_L1 l1 x17_2).length : Int)) = true := decide_eq_true c14
                          have c14b1 : decide (1 < (rd_L1 l1 x17_2).length) = true := decide_eq_true (by omega)
                          clear c14
                          replace H := Option.bind_eq_some_iff.mp H
                          obtain ⟨t126, A150, H⟩ := H
                          replace H : (if t126 = true then (spec_PiecesFit.l0 k2 a0 l1 (l1.length : Int) (wrap64 (x17_2 + 1))) else (some false)) = some r := H
                          have A15 := Aside0.mk A150
                          clear A150
                          by_cases c16 : t126 = true
                          · subst c16
                            have H1 : (spec_PiecesFit.l0 k2 a0 l1 (l1.length : Int) (wrap64 (x17_2 + 1))) = some r := by rw [if_pos rfl] at H; exact H
                            clear H
                            have H := H1
                            clear H1
                            have H' := Aside0.mk H
                            clear H
                            have p122 : 0 ≤ (x17_2 : Int) := of_decide_eq_true (by first | (with_reducible assumption) | assumption)
                            have q122 : x17_2 < (l1.length : Int) := of_decide_eq_true (by first | (with_reducible assumption) | assumption)
                            obtain ⟨ad122, A122_0, c122_0, e122, hx122_0, hl122_0, hi122_0⟩ := at_L1 HR1.out x17_2 p122 q122
                            cases e122
                            have HR122_0 := Aside0.mk hi122_0
                            have HC122_0 := Aside0.mk hl122_0
                            clear hi122_0 hl122_0
                            replace p122 := eq_true p122
                            replace q122 := eq_true q122
                            have p123 : 0 ≤ (0 : Int) := (by omega)
                            have q123 : 0 < ((rd_L1 l1 x17_2).length : Int) := of_decide_eq_true (by first | (with_reducible assumption) | assumption)
                            obtain ⟨ad123, e123, hx123_0⟩ := Kd.at_int HR122_0.out 0 p123 q123
                            cases e123
                            have qi123 : (0 < (rd_L1 l1 x17_2).length) = True := eq_true (by omega)
                            (try rw [show ((0 : Int)).toNat = 0 from rfl] at hx123_0)
                            (try rw [Addr.add_zero'] at hx123_0)
                            replace p123 := eq_true p123
                            replace q123 := eq_true q123
                            go_wp2_with (first | (go_at_call 57; (with_reducible refine (spec_l01In.calls (rd (rd_L1 l1 x17_2) 0) 1 a0 true _ A12.out).mono ?_); rintro e w' ⟨rfl, ⟨nd, rfl⟩⟩; have p125 : 0 ≤ (1 : Int) := (by omega); have q125 : 1 < ((rd_L1 l1 x17_2).length : Int) := of_decide_eq_true (by first | (with_reducible assumption) | assumption); obtain ⟨ad125, e125, hx125_0⟩ := Kd.at_int HR122_0.out 1 p125 q125; obtain rfl : ad123 = ad125 := (by injection e125); (try simp only [show (1 : Int).toNat = 1 from rfl, Nat.reduceMul, Nat.reduceEqDiff, Go.Addr.add, ↓reduceIte] at hx125_0); have qi125 : (1 < (rd_L1 l1 x17_2).length) = True := eq_true (by omega); (try rw [show ((1 : Int)).toNat = 1 from rfl] at hx125_0); replace p125 := eq_true p125; replace q125 := eq_true q125) | (go_at_call 57; (with_reducible refine (spec_l01In.calls (rd (rd_L1 l1 x17_2) 1) 1 100 true _ A15.out).mono ?_); rintro e w' ⟨rfl, ⟨nd, rfl⟩⟩))
                            go_roundg k2
                            case measure => have := HJ2.out; have := HK2.out; omega
                            case rel => exact ⟨(wrap64 (x17_2 + 1)), (by first | rfl | (simp; done) | (simp [*]; done)), H', ⟨by have := HJ2.out; have := HK2.out; omega⟩, by repeat (first | exact Drawn0.refl _ | apply Drawn0.step)⟩
                          · replace c16 := Bool.eq_false_iff.mpr c16
                            subst c16
                            have H1 : (some false) = some r := by rw [if_neg (show ¬ (false = true) by decide)] at H; exact H
                            clear H
                            have H := H1
                            clear H1
                            obtain rfl := Option.some.inj H
                            have p122 : 0 ≤ (x17_2 : Int) := of_decide_eq_true (by first | (with_reducible assumption) | assumption)
                            have q122 : x17_2 < (l1.length : Int) := of_decide_eq_true (by first | (with_reducible assumption) | assumption)
                            obtain ⟨ad122, A122_0, c122_0, e122, hx122_0, hl122_0, hi122_0⟩ := at_L1 HR1.out x17_2 p122 q122
                            cases e122
                            have HR122_0 := Aside0.mk hi122_0
                            have HC122_0 := Aside0.mk hl122_0
                            clear hi122_0 hl122_0
                            replace p122 := eq_true p122
                            replace q122 := eq_true q122
                            have p123 : 0 ≤ (0 : Int) := (by omega)
                            have q123 : 0 < ((rd_L1 l1 x17_2).length : Int) := of_decide_eq_true (by first | (with_reducible assumption) | assumption)
                            obtain ⟨ad123, e123, hx123_0⟩ := Kd.at_int HR122_0.out 0 p123 q123
                            cases e123
                            have qi123 : (0 < (rd_L1 l1 x17_2).length) = True := eq_true (by omega)
                            (try rw [show ((0 : Int)).toNat = 0 from rfl] at hx123_0)
                            (try rw [Addr.add_zero'] at hx123_0)
                            replace p123 := eq_true p123
                            replace q123 := eq_true q123
                            go_wp2_with (first | (go_at_call 57; (with_reducible refine (spec_l01In.calls (rd (rd_L1 l1 x17_2) 0) 1 a0 true _ A12.out).mono ?_); rintro e w' ⟨rfl, ⟨nd, rfl⟩⟩; have p125 : 0 ≤ (1 : Int) := (by omega); have q125 : 1 < ((rd_L1 l1 x17_2).length : Int) := of_decide_eq_true (by first | (with_reducible assumption) | assumption); obtain ⟨ad125, e125, hx125_0⟩ := Kd.at_int HR122_0.out 1 p125 q125; obtain rfl : ad123 = ad125 := (by injection e125); (try simp only [show (1 : Int).toNat = 1 from rfl, Nat.reduceMul, Nat.reduceEqDiff, Go.Addr.add, ↓reduceIte] at hx125_0); have qi125 : (1 < (rd_L1 l1 x17_2).length) = True := eq_true (by omega); (try rw [show ((1 : Int)).toNat = 1 from rfl] at hx125_0); replace p125 := eq_true p125; replace q125 := eq_true q125) | (go_at_call 57; (with_reducible refine (spec_l01In.calls (rd (rd_L1 l1 x17_2) 1) 1 100 false _ A15.out).mono ?_); rintro e w' ⟨rfl, ⟨nd, rfl⟩⟩))
                            go_ret
                            exact ⟨by first | rfl | (simp; done) | (simp [*]; done), by repeat (first | exact Drawn0.refl _ | apply Drawn0.step)⟩
                        · rw [if_neg c14] at H
                          exact absurd H (by simp)
                      · replace c13 := Bool.eq_false_iff.mpr c13
                        subst c13
                        have H1 : (some false) = some r := by rw [if_neg (show ¬ (false = true) by decide)] at H; exact H
                        clear H
                        have H := H1
                        clear H1
                        obtain rfl := Option.some.inj H
                        have p122 : 0 ≤ (x17_2 : Int) := of_decide_eq_true (by first | (with_reducible assumption) | assumption)
                        have q122 : x17_2 < (l1.length : Int) := of_decide_eq_true (by first | (with_reducible assumption) | assumption)
                        obtain ⟨ad122, A122_0, c122_0, e122, hx122_0, hl122_0, hi122_0⟩ := at_L1 HR1.out x17_2 p122 q122
                        cases e122
                        have HR122_0 := Aside0.mk hi122_0
                        have HC122_0 := Aside0.mk hl122_0
                        clear hi122_0 hl122_0
                        replace p122 := eq_true p122
                        replace q122 := eq_true q122
                        have p123 : 0 ≤ (0 : Int) := (by omega)
                        have q123 : 0 < ((rd_L1 l1 x17_2).length : Int) := of_decide_eq_true (by first | (with_reducible assumption) | assumption)
                        obtain ⟨ad123, e123, hx123_0⟩ := Kd.at_int HR122_0.out 0 p123 q123
                        cases e123
                        have qi123 : (0 < (rd_L1 l1 x17_2).length) = True := eq_true (by omega)
                        (try rw [show ((0 : Int)).toNat = 0 from rfl] at hx123_0)
                        (try rw [Addr.add_zero'] at hx123_0)
                        replace p123 := eq_true p123
                        replace q123 := eq_true q123
                        go_wp2_with (first | (go_at_call 57; (with_reducible refine (spec_l01In.calls (rd (rd_L1 l1 x17_2) 0) 1 a0 false _ A12.out).mono ?_); rintro e w' ⟨rfl, ⟨nd, rfl⟩⟩))
                        go_ret
                        exact ⟨by first | rfl | (simp; done) | (simp [*]; done), by repeat (first | exact Drawn0.refl _ | apply Drawn0.step)⟩
                    · rw [if_neg c11] at H
                      exact absurd H (by simp)
                  · rw [if_neg c10] at H
                    have c10b0 : (((rd_L1 l1 x17_2).length : Int) == 2) = false := beq_eq_false_iff_ne.mpr c10
                    have c10b1 : (((rd_L1 l1 x17_2).length : Int) != 2) = true := bne_iff_ne.mpr c10
                    obtain rfl := Option.some.inj H
                    have p122 : 0 ≤ (x17_2 : Int) := of_decide_eq_true (by first | (with_reducible assumption) | assumption)
                    have q122 : x17_2 < (l1.length : Int) := of_decide_eq_true (by first | (with_reducible assumption) | assumption)
                    obtain ⟨ad122, A122_0, c122_0, e122, hx122_0, hl122_0, hi122_0⟩ := at_L1 HR1.out x17_2 p122 q122
                    cases e122
                    have HR122_0 := Aside0.mk hi122_0
                    have HC122_0 := Aside0.mk hl122_0
                    clear hi122_0 hl122_0
                    replace p122 := eq_true p122
                    replace q122 := eq_true q122
                    go_wp2
                    go_ret
                    exact ⟨by first | rfl | (simp; done) | (simp [*]; done), by repeat (first | exact Drawn0.refl _ | apply Drawn0.step)⟩
                · rw [if_neg c9] at H
                  exact absurd H (by simp)
              · rw [if_neg c8] at H
                exact absurd H (by simp)
            · rw [if_neg c7] at H
              have c7b0 : decide (x17_2 < (l1.length : Int)) = false := decide_eq_false c7
              clear c7
              obtain rfl := Option.some.inj H
              go_wp2
              go_ret
              exact ⟨by first | rfl | (simp; done) | (simp [*]; done), by repeat (first | exact Drawn0.refl _ | apply Drawn0.step)⟩

/-! ### spec_l15Area: function 58 -/
def spec_l15Area.l0 : Nat → Int → List (List Int) → Int → Int → Option (Int)
  | 0, _, _, _, _ => none
  | k + 1, x3, x6, x7, x8 => if x8 < x7 then (if 0 ≤ x8 then (if x8 < (x6.length : Int) then (if 0 < ((rd_L1 x6 x8).length : Int) then (if 1 < ((rd_L1 x6 x8).length : Int) then (spec_l15Area.l0 k (wrap64 (x3 + (wrap64 ((rd (rd_L1 x6 x8) 0) * (rd (rd_L1 x6 x8) 1))))) x6 x7 (wrap64 (x8 + 1))) else (none)) else (none)) else (none)) else (none)) else (some x3)
def spec_l15Area.f (k : Nat) (l0 : List (List Int)) : Option (Int) := spec_l15Area.l0 k 0 l0 (l0.length : Int) 0
theorem spec_l15Area.mono_l : ∀ k, (∀ y0 y1 y2 y3, LeO (spec_l15Area.l0 k y0 y1 y2 y3) (spec_l15Area.l0 (k + 1) y0 y1 y2 y3))
  | 0 => fun _ _ _ _ r h => by simp [spec_l15Area.l0] at h
  | k + 1 => by
    have ih0 := spec_l15Area.mono_l k
    · intro y0 y1 y2 y3
      unfold spec_l15Area.l0
      repeat' first
      | (with_reducible exact ih0 _ _ _ _)
      | (with_reducible exact LeO.refl _)
      | (with_reducible exact LeO.none _)
      | (with_reducible refine LeO.ite ?_ ?_)
      | (with_reducible refine LeO.bind ?_ (fun _ => ?_))
      | exact ih0 _ _ _ _
      | exact LeO.none _
      | refine LeO.ite ?_ ?_
      | refine LeO.bind ?_ (fun _ => ?_)
theorem spec_l15Area.mono : ∀ a0 k, LeO (spec_l15Area.f k a0) (spec_l15Area.f (k + 1) a0) := by
  intro a0 k
  have ih0 := spec_l15Area.mono_l k
  unfold spec_l15Area.f
  repeat' first
      | (with_reducible exact ih0 _ _ _ _)
      | (with_reducible exact LeO.refl _)
      | (with_reducible exact LeO.none _)
      | (with_reducible refine LeO.ite ?_ ?_)
      | (with_reducible refine LeO.bind ?_ (fun _ => ?_))
      | exact ih0 _ _ _ _
      | exact LeO.none _
      | refine LeO.ite ?_ ?_
      | refine LeO.bind ?_ (fun _ => ?_)
set_option maxHeartbeats 8000000 in
set_option maxRecDepth 100000 in
theorem spec_l15Area.calls (k : Nat) (A0 : Option Addr) (c0 : Nat) (l0 : List (List Int)) (r : Int) (w : World) (hr0 : Kd.C (Kd.slice 3 (Kd.int .i64)) w A0 l0.length l0) (hc0 : l0.length ≤ c0) (h : spec_l15Area.f k l0 = some r) :
    Calls Try.prog 58 #[.slice A0 l0.length c0] w fun e w' => e = .returned (.int .i64 r) ∧ Drawn0 w w' := by
  have HR0 := Aside0.mk hr0
  have HC0 := Aside0.mk hc0
  clear hr0 hc0
  have H : (spec_l15Area.l0 k 0 l0 (l0.length : Int) 0) = some r := h
  clear h
  have H' := Aside0.mk H
  clear H
  go_enter Try.func58, Try.ntmps58
  go_wp2
  repeat (go_quiet (fail); try go_wp2)
  go_loopg [3, 8] k (fun kq v3 v8 w' => ∃ (x3_1 : Int) (x8_1 : Int), v3 = .int .i64 x3_1 ∧ v8 = .int .i64 x8_1 ∧ Aside0 (spec_l15Area.l0 kq x3_1 l0 (l0.length : Int) x8_1 = some r) ∧ Aside0 (kq ≤ k) ∧ Drawn0 w w')
  case atStart => exact ⟨(0), (0), (by first | rfl | (simp; done) | (simp [*]; done)), (by first | rfl | (simp; done) | (simp [*]; done)), H', ⟨Nat.le_refl _⟩, by repeat (first | exact Drawn0.refl _ | apply Drawn0.step)⟩
  case round =>
    clear H'
    obtain ⟨x3_1, x8_1, rfl, rfl, HA, HK1, ⟨m1, rfl⟩⟩ := hrel
    cases gk with
    | zero => exact absurd HA.out (by simp [spec_l15Area.l0])
    | succ k1 =>
      have H := HA.out
      clear HA
      simp only [spec_l15Area.l0] at H
      by_cases c2 : x8_1 < (l0.length : Int)
      · rw [if_pos c2] at H
        have c2b0 : decide (x8_1 < (l0.length : Int)) = true := decide_eq_true c2
        clear c2
        by_cases c3 : 0 ≤ x8_1
        · rw [if_pos c3] at H
          have c3b0 : decide (0 ≤ x8_1) = true := decide_eq_true c3
          clear c3
          by_cases c4 : x8_1 < (l0.length : Int)
          · rw [if_pos c4] at H
            have c4b0 : decide (x8_1 < (l0.length : Int)) = true := decide_eq_true c4
            clear c4
            by_cases c5 : 0 < ((rd_L1 l0 x8_1).length : Int)
            · rw [if_pos c5] at H
              have c5b0 : decide (0 < ((rd_L1 l0 x8_1).length : Int)) = true := decide_eq_true c5
              have c5b1 : decide (0 < (rd_L1 l0 x8_1).length) = true := decide_eq_true (by omega)
              clear c5
              by_cases c6 : 1 < ((rd_L1 l0 x8_1).length : Int)
              · rw [if_pos c6] at H
                have c6b0 : decide (1 < ((rd_L1 l0 x8_1).length : Int)) = true := decide_eq_true c6
                have c6b1 : decide (1 < (rd_L1 l0 x8_1).length) = true := decide_eq_true (by omega)
                clear c6
                have H' := Aside0.mk H
                clear H
                have p127 : 0 ≤ (x8_1 : Int) := of_decide_eq_true (by first | (with_reducible assumption) | assumption)
                have q127 : x8_1 < (l0.length : Int) := of_decide_eq_true (by first | (with_reducible assumption) | assumption)
                obtain ⟨ad127, A127_0, c127_0, e127, hx127_0, hl127_0, hi127_0⟩ := at_L1 HR0.out x8_1 p127 q127
                cases e127
                have HR127_0 := Aside0.mk hi127_0
                have HC127_0 := Aside0.mk hl127_0
                clear hi127_0 hl127_0
                replace p127 := eq_true p127
                replace q127 := eq_true q127
                have p128 : 0 ≤ (0 : Int) := (by omega)
                have q128 : 0 < ((rd_L1 l0 x8_1).length : Int) := of_decide_eq_true (by first | (with_reducible assumption) | assumption)
                obtain ⟨ad128, e128, hx128_0⟩ := Kd.at_int HR127_0.out 0 p128 q128
                cases e128
                have qi128 : (0 < (rd_L1 l0 x8_1).length) = True := eq_true (by omega)
                (try rw [show ((0 : Int)).toNat = 0 from rfl] at hx128_0)
                (try rw [Addr.add_zero'] at hx128_0)
                replace p128 := eq_true p128
                replace q128 := eq_true q128
                have p129 : 0 ≤ (1 : Int) := (by omega)
                have q129 : 1 < ((rd_L1 l0 x8_1).length : Int) := of_decide_eq_true (by first | (with_reducible assumption) | assumption)
                obtain ⟨ad129, e129, hx129_0⟩ := Kd.at_int HR127_0.out 1 p129 q129
                obtain rfl : ad128 = ad129 := (by injection e129)
                (try simp only [show (1 : Int).toNat = 1 from rfl, Nat.reduceMul, Nat.reduceEqDiff, Go.Addr.add, ↓reduceIte] at hx129_0)
                have qi129 : (1 < (rd_L1 l0 x8_1).length) = True := eq_true (by omega)
                (try rw [show ((1 : Int)).toNat = 1 from rfl] at hx129_0)
                replace p129 := eq_true p129
                replace q129 := eq_true q129
                go_wp2
                repeat (go_quiet (fail); try go_wp2)
                go_roundg k1
                case measure => have := HK1.out; omega
                case rel => exact ⟨(wrap64 (x3_1 + (wrap64 ((rd (rd_L1 l0 x8_1) 0) * (rd (rd_L1 l0 x8_1) 1))))), (wrap64 (x8_1 + 1)), (by first | rfl | (simp; done) | (simp [*]; done)), (by first | rfl | (simp; done) | (simp [*]; done)), H', ⟨by have := HK1.out; omega⟩, by repeat (first | exact Drawn0.refl _ | apply Drawn0.step)⟩
              · rw [if_neg c6] at H
                exact absurd H (by simp)
            · rw [if_neg c5] at H
              exact absurd H (by simp)
          · rw [if_neg c4] at H
            exact absurd H (by simp)
        · rw [if_neg c3] at H
          exact absurd H (by simp)
      · rw [if_neg c2] at H
        have c2b0 : decide (x8_1 < (l0.length : Int)) = false := decide_eq_false c2
        clear c2
        obtain rfl := Option.some.inj H
        go_wp2
        repeat (go_quiet (fail); try go_wp2)
        go_ret
        exact ⟨by first | rfl | (simp; done) | (simp [*]; done), by repeat (first | exact Drawn0.refl _ | apply Drawn0.step)⟩

/-! ### spec_StripBound: function 28 -/
def spec_StripBound.l0 : Nat → Int → List (List Int) → Int → Int → Option (Int)
  | 0, _, _, _, _ => none
  | k + 1, x5, x19, x20, x21 => if x21 < x20 then (if 0 ≤ x21 then (if x21 < (x19.length : Int) then (if 1 < ((rd_L1 x19 x21).length : Int) then (spec_StripBound.l0 k (mx x5 (rd (rd_L1 x19 x21) 1)) x19 x20 (wrap64 (x21 + 1))) else (none)) else (none)) else (none)) else (some x5)
def spec_StripBound.f (k : Nat) (a0 : Int) (l1 : List (List Int)) : Option (Int) := (spec_PiecesFit.f k a0 l1).bind fun t130 => (if t130 = true then ((spec_l15Area.f k l1).bind fun t131 => (if a0 = 0 then (none) else (spec_StripBound.l0 k (wrap64 (Int.tdiv (wrap64 ((wrap64 (t131 + a0)) - 1)) a0)) l1 (l1.length : Int) 0))) else (some (-1)))
theorem spec_StripBound.mono_l : ∀ k, (∀ y0 y1 y2 y3, LeO (spec_StripBound.l0 k y0 y1 y2 y3) (spec_StripBound.l0 (k + 1) y0 y1 y2 y3))
  | 0 => fun _ _ _ _ r h => by simp [spec_StripBound.l0] at h
  | k + 1 => by
    have ih0 := spec_StripBound.mono_l k
    · intro y0 y1 y2 y3
      unfold spec_StripBound.l0
      repeat' first
      | (with_reducible exact ih0 _ _ _ _)
      | (with_reducible exact spec_PiecesFit.mono _ _ _)
      | (with_reducible exact spec_l15Area.mono _ _)
      | (with_reducible exact LeO.refl _)
      | (with_reducible exact LeO.none _)
      | (with_reducible refine LeO.ite ?_ ?_)
      | (with_reducible refine LeO.bind ?_ (fun _ => ?_))
      | exact ih0 _ _ _ _
      | exact spec_PiecesFit.mono _ _ _
      | exact spec_l15Area.mono _ _
      | exact LeO.none _
      | refine LeO.ite ?_ ?_
      | refine LeO.bind ?_ (fun _ => ?_)
theorem spec_StripBound.mono : ∀ a0 a1 k, LeO (spec_StripBound.f k a0 a1) (spec_StripBound.f (k + 1) a0 a1) := by
  intro a0 a1 k
  have ih0 := spec_StripBound.mono_l k
  unfold spec_StripBound.f
  repeat' first
      | (with_reducible exact ih0 _ _ _ _)
      | (with_reducible exact spec_PiecesFit.mono _ _ _)
      | (with_reducible exact spec_l15Area.mono _ _)
      | (with_reducible exact LeO.refl _)
      | (with_reducible exact LeO.none _)
      | (with_reducible refine LeO.ite ?_ ?_)
      | (with_reducible refine LeO.bind ?_ (fun _ => ?_))
      | exact ih0 _ _ _ _
      | exact spec_PiecesFit.mono _ _ _
      | exact spec_l15Area.mono _ _
      | exact LeO.none _
      | refine LeO.ite ?_ ?_
      | refine LeO.bind ?_ (fun _ => ?_)
set_option maxHeartbeats 8000000 in
set_option maxRecDepth 100000 in
theorem spec_StripBound.calls (k : Nat) (a0 : Int) (A1 : Option Addr) (c1 : Nat) (l1 : List (List Int)) (r : Int) (w : World) (hr1 : Kd.C (Kd.slice 3 (Kd.int .i64)) w A1 l1.length l1) (hc1 : l1.length ≤ c1) (h : spec_StripBound.f k a0 l1 = some r) :
    Calls Try.prog 28 #[.int .i64 a0, .slice A1 l1.length c1] w fun e w' => e = .returned (.int .i64 r) ∧ Below w.heap.size w w' := by
  have HR1 := Aside0.mk hr1
  have HC1 := Aside0.mk hc1
  clear hr1 hc1
  have HB := Aside0.mk (Below.refl w.heap.size w)
  have H : ((spec_PiecesFit.f k a0 l1).bind fun t130 => (if t130 = true then ((spec_l15Area.f k l1).bind fun t131 => (if a0 = 0 then (none) else (spec_StripBound.l0 k (wrap64 (Int.tdiv (wrap64 ((wrap64 (t131 + a0)) - 1)) a0)) l1 (l1.length : Int) 0))) else (some (-1)))) = some r := h
  clear h
  replace H := Option.bind_eq_some_iff.mp H
  obtain ⟨t130, A30, H⟩ := H
  replace H : (if t130 = true then ((spec_l15Area.f k l1).bind fun t131 => (if a0 = 0 then (none) else (spec_StripBound.l0 k (wrap64 (Int.tdiv (wrap64 ((wrap64 (t131 + a0)) - 1)) a0)) l1 (l1.length : Int) 0))) else (some (-1))) = some r := H
  have A3 := Aside0.mk A30
  clear A30
  by_cases c4 : t130 = true
  · subst c4
    have H1 : ((spec_l15Area.f k l1).bind fun t131 => (if a0 = 0 then (none) else (spec_StripBound.l0 k (wrap64 (Int.tdiv (wrap64 ((wrap64 (t131 + a0)) - 1)) a0)) l1 (l1.length : Int) 0))) = some r := by rw [if_pos rfl] at H; exact H
    clear H
    have H := H1
    clear H1
    replace H := Option.bind_eq_some_iff.mp H
    obtain ⟨t131, A50, H⟩ := H
    replace H : (if a0 = 0 then (none) else (spec_StripBound.l0 k (wrap64 (Int.tdiv (wrap64 ((wrap64 (t131 + a0)) - 1)) a0)) l1 (l1.length : Int) 0)) = some r := H
    have A5 := Aside0.mk A50
    clear A50
    by_cases c6 : a0 = 0
    · rw [if_pos c6] at H
      exact absurd H (by simp)
    · rw [if_neg c6] at H
      have c6b0 : (a0 == 0) = false := beq_eq_false_iff_ne.mpr c6
      have c6b1 : (a0 != 0) = true := bne_iff_ne.mpr c6
      have H' := Aside0.mk H
      clear H
      go_enter Try.func28, Try.ntmps28
      go_wp2_with (first | ((with_reducible refine gate_callee (f := 56) rfl ?_); refine goesL_ (some 10) rfl rfl Try.func56 (by kernel_rfl) rfl #[.int .i64 a0, .slice A1 l1.length c1] rfl (by (try simp only [List.map_toArray, List.map_cons, List.map_nil]); first | done | rfl | (simp only [List.length_drop, List.length_take]; rfl)) ?_; (with_reducible refine (spec_PiecesFit.calls k a0 _ _ l1 true _ ?side1 ?side2 A3.out).mono ?_); (case side1 => repeat (first | exact HR1.out | (with_reducible refine Kd.C_alloc ?_ _) | (with_reducible refine Kd.C_drewN ?_ _) | (with_reducible refine Kd.C_drew ?_))); (case side2 => exact HC1.out); rintro e w' ⟨rfl, ⟨nd, rfl⟩⟩; refine ⟨_, rfl, ?_⟩) | ((with_reducible refine gate_callee (f := 58) rfl ?_); refine goesL_ (some 13) rfl rfl Try.func58 (by kernel_rfl) rfl #[.slice A1 l1.length c1] rfl (by (try simp only [List.map_toArray, List.map_cons, List.map_nil]); first | done | rfl | (simp only [List.length_drop, List.length_take]; rfl)) ?_; (with_reducible refine (spec_l15Area.calls k _ _ l1 t131 _ ?side1 ?side2 A5.out).mono ?_); (case side1 => repeat (first | exact HR1.out | (with_reducible refine Kd.C_alloc ?_ _) | (with_reducible refine Kd.C_drewN ?_ _) | (with_reducible refine Kd.C_drew ?_))); (case side2 => exact HC1.out); rintro e w' ⟨rfl, ⟨nd, rfl⟩⟩; refine ⟨_, rfl, ?_⟩))
      go_loopg [5, 21] k (fun kq v5 v21 w' => ∃ (x5_1 : Int) (x21_1 : Int), v5 = .int .i64 x5_1 ∧ v21 = .int .i64 x21_1 ∧ Aside0 (spec_StripBound.l0 kq x5_1 l1 (l1.length : Int) x21_1 = some r) ∧ Aside0 (kq ≤ k) ∧ Aside0 (Below w.heap.size w w'))
      case atStart => exact ⟨(wrap64 (Int.tdiv (wrap64 ((wrap64 (t131 + a0)) - 1)) a0)), (0), (by first | rfl | (simp; done) | (simp [*]; done)), (by first | rfl | (simp; done) | (simp [*]; done)), H', ⟨Nat.le_refl _⟩, ⟨by repeat (first | (with_reducible first | exact HB.out | apply below_alloc | apply pw_below_drewN | apply below_drew1) | exact HB.out)⟩⟩
      case round =>
        clear H'
        try clear c1
        try clear c2
        try clear p2
        try clear c4
        try clear c5
        try clear c6
        try clear c6b0
        try clear c6b1
        try clear p6
        obtain ⟨x5_1, x21_1, rfl, rfl, HA, HK1, HB⟩ := hrel
        cases gk with
        | zero => exact absurd HA.out (by simp [spec_StripBound.l0])
        | succ k1 =>
          have H := HA.out
          clear HA
          simp only [spec_StripBound.l0] at H
          by_cases c7 : x21_1 < (l1.length : Int)
          · rw [if_pos c7] at H
            have c7b0 : decide (x21_1 < (l1.length : Int)) = true := decide_eq_true c7
            clear c7
            by_cases c8 : 0 ≤ x21_1
            · rw [if_pos c8] at H
              have c8b0 : decide (0 ≤ x21_1) = true := decide_eq_true c8
              clear c8
              by_cases c9 : x21_1 < (l1.length : Int)
              · rw [if_pos c9] at H
                have c9b0 : decide (x21_1 < (l1.length : Int)) = true := decide_eq_true c9
                clear c9
                by_cases c10 : 1 < ((rd_L1 l1 x21_1).length : Int)
                · rw [if_pos c10] at H
                  have c10b0 : decide (1 < ((rd_L1 l1 x21_1).length : Int)) = true := decide_eq_true c10
                  have c10b1 : decide (1 < (rd_L1 l1 x21_1).length) = true := decide_eq_true (by omega)
                  clear c10
                  obtain ⟨ji11, hji11⟩ : ∃ j_ : Int, (mx x5_1 (rd (rd_L1 l1 x21_1) 1)) = j_ := ⟨_, rfl⟩
                  replace H : (spec_StripBound.l0 k1 ji11 l1 (l1.length : Int) (wrap64 (x21_1 + 1))) = some r := by first | (rw [hji11] at H; exact H) | (simp only [hji11] at H ⊢; exact H)
                  have hji11_ : (if x5_1 < (rd (rd_L1 l1 x21_1) 1) then (rd (rd_L1 l1 x21_1) 1) else x5_1) = ji11 := hji11
                  have H' := Aside0.mk H
                  clear H
                  have p132 : 0 ≤ (x21_1 : Int) := of_decide_eq_true (by first | (with_reducible assumption) | assumption)
                  have q132 : x21_1 < (l1.length : Int) := of_decide_eq_true (by first | (with_reducible assumption) | assumption)
                  obtain ⟨ad132, A132_0, c132_0, e132, hx132_0, hl132_0, hi132_0⟩ := at_L1 HR1.out x21_1 p132 q132
                  cases e132
                  replace hx132_0 := (HB.out.cell (World.block_lt_of_cell? w _ hx132_0)).trans hx132_0
                  have HR132_0 := Aside0.mk hi132_0
                  have HC132_0 := Aside0.mk hl132_0
                  clear hi132_0 hl132_0
                  replace p132 := eq_true p132
                  replace q132 := eq_true q132
                  have p133 : 0 ≤ (1 : Int) := (by omega)
                  have q133 : 1 < ((rd_L1 l1 x21_1).length : Int) := of_decide_eq_true (by first | (with_reducible assumption) | assumption)
                  obtain ⟨ad133, e133, hx133_0⟩ := Kd.at_int HR132_0.out 1 p133 q133
                  cases e133
                  (try simp only [show (1 : Int).toNat = 1 from rfl, Nat.reduceMul, Nat.reduceEqDiff, Go.Addr.add, ↓reduceIte] at hx133_0)
                  have qi133 : (1 < (rd_L1 l1 x21_1).length) = True := eq_true (by omega)
                  (try rw [show ((1 : Int)).toNat = 1 from rfl] at hx133_0)
                  replace hx133_0 := (HB.out.cell (World.block_lt_of_cell? w _ hx133_0)).trans hx133_0
                  replace p133 := eq_true p133
                  replace q133 := eq_true q133
                  go_wp2
                  go_roundg k1
                  case measure => have := HK1.out; omega
                  case rel => exact ⟨(ji11), (wrap64 (x21_1 + 1)), (by first | rfl | (simp; done) | (simp only [← hji11] <;> (first | rfl | simp)) | (simp [*]; done)), (by first | rfl | (simp; done) | (simp [*]; done)), H', ⟨by have := HK1.out; omega⟩, ⟨by repeat (first | (with_reducible first | exact HB.out | apply below_alloc | apply pw_below_drewN | apply below_drew1) | exact HB.out)⟩⟩
                · rw [if_neg c10] at H
                  exact absurd H (by simp)
              · rw [if_neg c9] at H
                exact absurd H (by simp)
            · rw [if_neg c8] at H
              exact absurd H (by simp)
          · rw [if_neg c7] at H
            have c7b0 : decide (x21_1 < (l1.length : Int)) = false := decide_eq_false c7
            clear c7
            obtain rfl := Option.some.inj H
            go_wp2
            go_ret
            exact ⟨by first | rfl | (simp [errW_none, errW_some] <;> rfl) | (simp [*, errW_none, errW_some] <;> rfl), by repeat (first | (with_reducible first | exact HB.out | apply below_alloc | apply pw_below_drewN | apply below_drew1) | exact HB.out)⟩
  · replace c4 := Bool.eq_false_iff.mpr c4
    subst c4
    have H1 : (some (-1)) = some r := by rw [if_neg (show ¬ (false = true) by decide)] at H; exact H
    clear H
    have H := H1
    clear H1
    obtain rfl := Option.some.inj H
    go_enter Try.func28, Try.ntmps28
    go_wp2_with (first | ((with_reducible refine gate_callee (f := 56) rfl ?_); refine goesL_ (some 10) rfl rfl Try.func56 (by kernel_rfl) rfl #[.int .i64 a0, .slice A1 l1.length c1] rfl (by (try simp only [List.map_toArray, List.map_cons, List.map_nil]); first | done | rfl | (simp only [List.length_drop, List.length_take]; rfl)) ?_; (with_reducible refine (spec_PiecesFit.calls k a0 _ _ l1 false _ ?side1 ?side2 A3.out).mono ?_); (case side1 => repeat (first | exact HR1.out | (with_reducible refine Kd.C_alloc ?_ _) | (with_reducible refine Kd.C_drewN ?_ _) | (with_reducible refine Kd.C_drew ?_))); (case side2 => exact HC1.out); rintro e w' ⟨rfl, ⟨nd, rfl⟩⟩; refine ⟨_, rfl, ?_⟩))
    go_ret
    exact ⟨by first | rfl | (simp [errW_none, errW_some] <;> rfl) | (simp [*, errW_none, errW_some] <;> rfl), by repeat (first | (with_reducible first | exact HB.out | apply below_alloc | apply pw_below_drewN | apply below_drew1) | exact HB.out)⟩

/-! ### impl_within: function 60 -/
def impl_within.f (a0 : Int) (a1 : Int) (a2 : Int) : Option (Bool) := if a0 ≥ a1 then (some (decide (a0 ≤ a2))) else (some false)
set_option maxHeartbeats 8000000 in
set_option maxRecDepth 100000 in
theorem impl_within.calls (a0 : Int) (a1 : Int) (a2 : Int) (r : Bool) (w : World) (h : impl_within.f a0 a1 a2 = some r) :
    Calls Try.prog 60 #[.int .i64 a0, .int .i64 a1, .int .i64 a2] w fun e w' => e = .returned (.bool r) ∧ Drawn0 w w' := by
  have H : (if a0 ≥ a1 then (some (decide (a0 ≤ a2))) else (some false)) = some r := h
  clear h
  by_cases c4 : a0 ≥ a1
  · rw [if_pos c4] at H
    have c4b0 : decide (a1 ≤ a0) = true := decide_eq_true c4
    clear c4
    obtain rfl := Option.some.inj H
    go_enter Try.func60, Try.ntmps60
    go_wp2
    go_ret
    exact ⟨by first | rfl | (simp; done) | (simp [*]; done), by repeat (first | exact Drawn0.refl _ | apply Drawn0.step)⟩
  · rw [if_neg c4] at H
    have c4b0 : decide (a1 ≤ a0) = false := decide_eq_false c4
    clear c4
    obtain rfl := Option.some.inj H
    go_enter Try.func60, Try.ntmps60
    go_wp2
    go_ret
    exact ⟨by first | rfl | (simp; done) | (simp [*]; done), by repeat (first | exact Drawn0.refl _ | apply Drawn0.step)⟩

-- NOT PRINTED: function 92 (slices_IndexFunc_int_int)

-- NOT PRINTED: function 82 (slices_ContainsFunc_int_int)

/-! ### impl_arePieces_1: function 91 -/
def impl_arePieces_1.f (l0 : List Int) : Option (Bool) := if (l0.length : Int) = 2 then (if 0 < (l0.length : Int) then ((impl_within.f (rd l0 0) 1 100).bind fun t135 => (if t135 = true then (if 1 < (l0.length : Int) then ((impl_within.f (rd l0 1) 1 100).bind fun t137 => (some (!t137))) else (none)) else (some true))) else (none)) else (some true)
set_option maxHeartbeats 8000000 in
set_option maxRecDepth 100000 in
theorem impl_arePieces_1.calls (A0 : Option Addr) (c0 : Nat) (l0 : List Int) (r : Bool) (w : World) (hr0 : Kd.C (Kd.int .i64) w A0 l0.length l0) (hc0 : l0.length ≤ c0) (h : impl_arePieces_1.f l0 = some r) :
    Calls Try.prog 91 #[.slice A0 l0.length c0] w fun e w' => e = .returned (.bool r) ∧ Drawn0 w w' := by
  have HR0 := Aside0.mk hr0
  have HC0 := Aside0.mk hc0
  clear hr0 hc0
  have H : (if (l0.length : Int) = 2 then (if 0 < (l0.length : Int) then ((impl_within.f (rd l0 0) 1 100).bind fun t135 => (if t135 = true then (if 1 < (l0.length : Int) then ((impl_within.f (rd l0 1) 1 100).bind fun t137 => (some (!t137))) else (none)) else (some true))) else (none)) else (some true)) = some r := h
  clear h
  by_cases c2 : (l0.length : Int) = 2
  · rw [if_pos c2] at H
    have c2b0 : ((l0.length : Int) == 2) = true := beq_iff_eq.mpr c2
    have c2b1 : ((l0.length : Int) != 2) = false := bne_eq_false_iff_eq.mpr c2
    clear c2
    by_cases c3 : 0 < (l0.length : Int)
    · rw [if_pos c3] at H
      have c3b0 : decide (0 < (l0.length : Int)) = true := decide_eq_true c3
      have c3b1 : decide (0 < l0.length) = true := decide_eq_true (by omega)
      clear c3
      replace H := Option.bind_eq_some_iff.mp H
      obtain ⟨t135, A40, H⟩ := H
      replace H : (if t135 = true then (if 1 < (l0.length : Int) then ((impl_within.f (rd l0 1) 1 100).bind fun t137 => (some (!t137))) else (none)) else (some true)) = some r := H
      have A4 := Aside0.mk A40
      clear A40
      by_cases c5 : t135 = true
      · subst c5
        have H1 : (if 1 < (l0.length : Int) then ((impl_within.f (rd l0 1) 1 100).bind fun t137 => (some (!t137))) else (none)) = some r := by rw [if_pos rfl] at H; exact H
        clear H
        have H := H1
        clear H1
        by_cases c6 : 1 < (l0.length : Int)
        · rw [if_pos c6] at H
          have c6b0 : decide (1 < (l0.length : Int)) = true := decide_eq_true c6
          have c6b1 : decide (1 < l0.length) = true := decide_eq_true (by omega)
          clear c6
          replace H := Option.bind_eq_some_iff.mp H
          obtain ⟨t137, A70, H⟩ := H
          replace H : (some (!t137)) = some r := H
          have A7 := Aside0.mk A70
          clear A70
          obtain rfl := Option.some.inj H
          have p134 : 0 ≤ (0 : Int) := (by omega)
          have q134 : 0 < (l0.length : Int) := of_decide_eq_true (by first | (with_reducible assumption) | assumption)
          obtain ⟨ad134, e134, hx134_0⟩ := Kd.at_int HR0.out 0 p134 q134
          cases e134
          have qi134 : (0 < l0.length) = True := eq_true (by omega)
          (try rw [show ((0 : Int)).toNat = 0 from rfl] at hx134_0)
          (try rw [Addr.add_zero'] at hx134_0)
          replace p134 := eq_true p134
          replace q134 := eq_true q134
          go_enter Try.func91, Try.ntmps91
          go_wp2_with (first | (go_at_call 60; (with_reducible refine (impl_within.calls (rd l0 0) 1 100 true _ A4.out).mono ?_); rintro e w' ⟨rfl, ⟨nd, rfl⟩⟩; have p136 : 0 ≤ (1 : Int) := (by omega); have q136 : 1 < (l0.length : Int) := of_decide_eq_true (by first | (with_reducible assumption) | assumption); obtain ⟨ad136, e136, hx136_0⟩ := Kd.at_int HR0.out 1 p136 q136; obtain rfl : ad134 = ad136 := (by injection e136); (try simp only [show (1 : Int).toNat = 1 from rfl, Nat.reduceMul, Nat.reduceEqDiff, Go.Addr.add, ↓reduceIte] at hx136_0); have qi136 : (1 < l0.length) = True := eq_true (by omega); (try rw [show ((1 : Int)).toNat = 1 from rfl] at hx136_0); replace p136 := eq_true p136; replace q136 := eq_true q136) | (go_at_call 60; (with_reducible refine (impl_within.calls (rd l0 1) 1 100 t137 _ A7.out).mono ?_); rintro e w' ⟨rfl, ⟨nd, rfl⟩⟩))
          go_ret
          exact ⟨by first | rfl | (simp; done) | (simp [*]; done), by repeat (first | exact Drawn0.refl _ | apply Drawn0.step)⟩
        · rw [if_neg c6] at H
          exact absurd H (by simp)
      · replace c5 := Bool.eq_false_iff.mpr c5
        subst c5
        have H1 : (some true) = some r := by rw [if_neg (show ¬ (false = true) by decide)] at H; exact H
        clear H
        have H := H1
        clear H1
        obtain rfl := Option.some.inj H
        have p134 : 0 ≤ (0 : Int) := (by omega)
        have q134 : 0 < (l0.length : Int) := of_decide_eq_true (by first | (with_reducible assumption) | assumption)
        obtain ⟨ad134, e134, hx134_0⟩ := Kd.at_int HR0.out 0 p134 q134
        cases e134
        have qi134 : (0 < l0.length) = True := eq_true (by omega)
        (try rw [show ((0 : Int)).toNat = 0 from rfl] at hx134_0)
        (try rw [Addr.add_zero'] at hx134_0)
        replace p134 := eq_true p134
        replace q134 := eq_true q134
        go_enter Try.func91, Try.ntmps91
        go_wp2_with (first | (go_at_call 60; (with_reducible refine (impl_within.calls (rd l0 0) 1 100 false _ A4.out).mono ?_); rintro e w' ⟨rfl, ⟨nd, rfl⟩⟩))
        go_ret
        exact ⟨by first | rfl | (simp; done) | (simp [*]; done), by repeat (first | exact Drawn0.refl _ | apply Drawn0.step)⟩
    · rw [if_neg c3] at H
      exact absurd H (by simp)
  · rw [if_neg c2] at H
    have c2b0 : ((l0.length : Int) == 2) = false := beq_eq_false_iff_ne.mpr c2
    have c2b1 : ((l0.length : Int) != 2) = true := bne_iff_ne.mpr c2
    obtain rfl := Option.some.inj H
    go_enter Try.func91, Try.ntmps91
    go_wp2
    go_ret
    exact ⟨by first | rfl | (simp; done) | (simp [*]; done), by repeat (first | exact Drawn0.refl _ | apply Drawn0.step)⟩

/-! ### impl_arePieces: function 81 -/
def pieceOk (p : List Int) : Bool := decide (p.length = 2 ∧ (1 ≤ rd p 0 ∧ rd p 0 ≤ 100) ∧ (1 ≤ rd p 1 ∧ rd p 1 ≤ 100))
def impl_arePieces.f (l0 : List (List Int)) : Option (Bool) := some (decide (l0.length ≤ 12) && l0.all pieceOk)
theorem impl_arePieces.within (a b c : Int) : impl_within.f a b c = some (decide (b ≤ a ∧ a ≤ c)) := by
  unfold impl_within.f
  by_cases h : a ≥ b
  · rw [if_pos h]; simp [show b ≤ a from h]
  · rw [if_neg h]; simp [show ¬ b ≤ a from h]
theorem impl_arePieces.lit (p : List Int) : impl_arePieces_1.f p = some (!pieceOk p) := by
  unfold impl_arePieces_1.f pieceOk
  generalize rd p 0 = a
  generalize rd p 1 = b
  by_cases h3 : p.length = 2
  · simp only [show ((p.length : Int) = 2) = True from eq_true (by omega), show (0 < (p.length : Int)) = True from eq_true (by omega), show (1 < (p.length : Int)) = True from eq_true (by omega), h3, if_true, true_and, impl_arePieces.within, Option.bind_some]
    by_cases g0 : 1 ≤ a ∧ a ≤ 100
    · simp [g0]
    · simp [g0]
  · have : ¬ ((p.length : Int) = 2) := by omega
    simp [this, h3]
theorem impl_arePieces.calls (A0 : Option Addr) (c0 : Nat) (l0 : List (List Int)) (r : Bool) (w : World) (hr0 : Kd.C (Kd.slice 3 (Kd.int .i64)) w A0 l0.length l0) (hc0 : l0.length ≤ c0) (h : impl_arePieces.f l0 = some r) :
    Calls Try.prog 81 #[.slice A0 l0.length c0] w fun e w' => e = .returned (.bool r) ∧ Below w.heap.size w w' := by
  have HC : ∀ W : World, Below w.heap.size w W →
      Calls Try.prog 82 #[.slice A0 l0.length c0, .func (.func 91) #[] #[]] W fun e w' => e = .returned (.bool (!(l0.all pieceOk))) ∧ Below W.heap.size W w' := by
    intro W hb
    obtain ⟨vs, hl, hr, hv⟩ := Hof.reads_rows (Kd.C_below hr0 hb)
    have e3 : ((l0.map fun p => !pieceOk p).any id) = !(l0.all pieceOk) := by
      simp [List.any_map, Function.comp_def, List.not_all_eq_any_not]
    rw [← e3]
    have := Hof.ContainsFunc_row 91 #[] (enters_of Try.func91 (by kernel_rfl) rfl) A0 c0 vs (l0.map fun p => !pieceOk p) W (by simp [hl]) hr ?_
    · rwa [hl] at this
    · intro W1 j hj hb1
      rw [hl] at hj
      obtain ⟨A', c', e1, h1, h2⟩ := hv j hj
      have e2 : (l0.map fun p => !pieceOk p).getD j false = !pieceOk l0[j] := by simp [List.getD_eq_getElem?_getD, hj]
      rw [e1, e2]
      exact (impl_arePieces_1.calls A' c' l0[j] _ W1 (Kd.C_below h2 hb1) h1 (impl_arePieces.lit _)).mono fun e w' ⟨h1, h2⟩ => ⟨h1, h2.below⟩
  obtain rfl := Option.some.inj h
  clear h hr0
  generalize (l0.all pieceOk) = q at HC ⊢
  have HCA := Aside0.mk HC
  clear HC
  by_cases h2 : l0.length ≤ 12
  · have h2b : decide (l0.length ≤ 12) = true := decide_eq_true h2
    have h2c : decide ((l0.length : Int) ≤ 12) = true := decide_eq_true (by omega)
    go_enter Try.func81, Try.ntmps81
    go_wp2_with fail
    refine (HCA.out _ (Below.refl _ _)).mono ?_
    rintro e w1 ⟨rfl, hb⟩
    have HB := Aside0.mk hb
    clear hb
    go_wp2
    go_ret
    exact ⟨by simp [h2], HB.out⟩
  · have h2b : decide (l0.length ≤ 12) = false := decide_eq_false h2
    have h2c : decide ((l0.length : Int) ≤ 12) = false := decide_eq_false (by omega)
    go_enter Try.func81, Try.ntmps81
    go_wp2
    go_ret
    exact ⟨by simp [h2], Below.refl _ _⟩

/-! ### impl_PiecesFit: function 59 -/
def fitsIn (w : Int) (p : List Int) : Bool := decide (rd p 0 ≤ w)
def impl_PiecesFit.f (a0 : Int) (l1 : List (List Int)) : Option (Bool) := some (decide (1 ≤ a0 ∧ a0 ≤ 100) && ((decide (l1.length ≤ 12) && l1.all pieceOk) && l1.all (fitsIn a0)))
theorem impl_PiecesFit.within (a b c : Int) : impl_within.f a b c = some (decide (b ≤ a ∧ a ≤ c)) := by
  unfold impl_within.f
  by_cases h : a ≥ b
  · rw [if_pos h]; simp [show b ≤ a from h]
  · rw [if_neg h]; simp [show ¬ b ≤ a from h]
theorem impl_PiecesFit.lit (a0 : Int) (p : List Int) (A : Option Addr) (c : Nat) (B : Nat) (W : World) (hp : 0 < p.length) (hr : Kd.C (Kd.int .i64) W A p.length p) (hc : W.cell? ⟨B, 0, none⟩ = some (.int .i64 a0)) :
    Calls Try.prog 83 #[.slice A p.length c, .pointer (some ⟨B, 0, none⟩)] W fun e w' => e = .returned (.bool (!fitsIn a0 p)) ∧ Drawn0 W w' := by
  obtain ⟨ad, rfl, hx⟩ := Kd.at_int hr 0 (by omega) (by omega)
  clear hr
  replace hx : W.cell? ad = some (.int .i64 (rd p 0)) := by simpa [Addr.add] using hx
  have h1 : decide (0 < p.length) = true := decide_eq_true hp
  have h2 : decide ((0 : Int) < (p.length : Int)) = true := decide_eq_true (by omega)
  have hp2 : (0 : Int) < (p.length : Int) := by omega
  have e : (!fitsIn a0 p) = decide (a0 < rd p 0) := by
    unfold fitsIn
    by_cases g : rd p 0 ≤ a0
    · simp [g]
    · simp [g, show a0 < rd p 0 by omega]
  rw [e]
  generalize rd p 0 = x at hx ⊢
  generalize p.length = n at *
  go_enter Try.func83, Try.ntmps83
  go_wp2
  go_quiet (fail)
  go_wp2
  go_ret
  exact ⟨by simp, ⟨⟨_, rfl⟩⟩⟩
theorem impl_PiecesFit.calls (a0 : Int) (A1 : Option Addr) (c1 : Nat) (l1 : List (List Int)) (r : Bool) (w : World) (hr1 : Kd.C (Kd.slice 3 (Kd.int .i64)) w A1 l1.length l1) (hc1 : l1.length ≤ c1) (h : impl_PiecesFit.f a0 l1 = some r) :
    Calls Try.prog 59 #[.int .i64 a0, .slice A1 l1.length c1] w fun e w' => e = .returned (.bool r) ∧ Below w.heap.size w w' := by
  have HC : l1.all pieceOk = true → ∀ W : World, Below w.heap.size w W → W.cell? ⟨w.heap.size, 0, none⟩ = some (.int .i64 a0) → w.heap.size < W.heap.size →
      Calls Try.prog 82 #[.slice A1 l1.length c1, .func (.func 83) #[] #[.pointer (some ⟨w.heap.size, 0, none⟩)]] W fun e w' => e = .returned (.bool (!(l1.all (fitsIn a0)))) ∧ Below W.heap.size W w' := by
    intro hall W hb hcell hlt
    obtain ⟨vs, hl, hr, hv⟩ := Hof.reads_rows (Kd.C_below hr1 hb)
    have e3 : ((l1.map fun p => !fitsIn a0 p).any id) = !(l1.all (fitsIn a0)) := by
      simp [List.any_map, Function.comp_def, List.not_all_eq_any_not]
    rw [← e3]
    have := Hof.ContainsFunc_row 83 #[.pointer (some ⟨w.heap.size, 0, none⟩)] (enters_of Try.func83 (by kernel_rfl) rfl) A1 c1 vs (l1.map fun p => !fitsIn a0 p) W (by simp [hl]) hr ?_
    · rwa [hl] at this
    · intro W1 j hj hb1
      rw [hl] at hj
      obtain ⟨A', c', e1, h1, h2⟩ := hv j hj
      have e2 : (l1.map fun p => !fitsIn a0 p).getD j false = !fitsIn a0 l1[j] := by simp [List.getD_eq_getElem?_getD, hj]
      rw [e1, e2]
      have hp : pieceOk l1[j] = true := List.all_eq_true.mp hall _ (List.getElem_mem hj)
      have hp2 : (l1[j]).length = 2 := by
        unfold pieceOk at hp
        exact (of_decide_eq_true hp).1
      exact (impl_PiecesFit.lit a0 l1[j] A' c' w.heap.size W1 (by omega) (Kd.C_below h2 hb1) ((hb1.cell (p := ⟨w.heap.size, 0, none⟩) hlt).trans hcell)).mono fun e w' ⟨h1, h2⟩ => ⟨h1, h2.below⟩
  have HP : ∀ W : World, Below w.heap.size w W → Calls Try.prog 81 #[.slice A1 l1.length c1] W fun e w' => e = .returned (.bool (decide (l1.length ≤ 12) && l1.all pieceOk)) ∧ Below W.heap.size W w' :=
    fun W hb => impl_arePieces.calls A1 c1 l1 _ W (Kd.C_below hr1 hb) hc1 rfl
  obtain rfl := Option.some.inj h
  clear h hr1
  have h5 : (decide (l1.length ≤ 12) && l1.all pieceOk) = true → l1.all pieceOk = true := fun h => by simp only [Bool.and_eq_true] at h; exact h.2
  generalize l1.all (fitsIn a0) = q at HC ⊢
  generalize hb : (decide (l1.length ≤ 12) && l1.all pieceOk) = b at HP h5 ⊢
  generalize l1.all pieceOk = b2 at HC h5
  have HPA := Aside0.mk HP
  have HCA := Aside0.mk HC
  have H5 := Aside0.mk h5
  clear HC HP h5 hb
  by_cases h1 : 1 ≤ a0 ∧ a0 ≤ 100
  · have HW := Aside0.mk (show impl_within.f a0 1 100 = some true by rw [impl_PiecesFit.within]; simp [h1])
    cases b with
    | true =>
      go_enter Try.func59, Try.ntmps59
      go_wp2_with fail
      refine (impl_within.calls a0 1 100 true _ HW.out).mono ?_
      rintro e w1 ⟨rfl, ⟨⟨nd, rfl⟩⟩⟩
      go_wp2_with fail
      refine (HPA.out _ (pw_below_drewN (below_alloc (Below.refl _ _) _) _)).mono ?_
      rintro e w1 ⟨rfl, hb⟩
      have HB := Aside0.mk (below_step (pw_below_drewN (below_alloc (Below.refl _ _) _) _) hb)
      have hcell : w1.cell? ⟨w.heap.size, 0, none⟩ = some (.int .i64 a0) := (hb.cell (p := ⟨w.heap.size, 0, none⟩) (by simp)).trans (by simp)
      have hz := hb.size
      have hsz : w.heap.size < w1.heap.size := by simp at hz; omega
      clear hb hz
      go_wp2_with fail
      refine (HCA.out (H5.out (by first | rfl | trivial)) _ HB.out hcell hsz).mono ?_
      rintro e w2 ⟨rfl, hb⟩
      have HB2 := Aside0.mk (below_step HB.out hb)
      clear hb
      go_wp2
      go_ret
      exact ⟨by simp [h1], HB2.out⟩
    | false =>
      go_enter Try.func59, Try.ntmps59
      go_wp2_with fail
      refine (impl_within.calls a0 1 100 true _ HW.out).mono ?_
      rintro e w1 ⟨rfl, ⟨⟨nd, rfl⟩⟩⟩
      go_wp2_with fail
      refine (HPA.out _ (pw_below_drewN (below_alloc (Below.refl _ _) _) _)).mono ?_
      rintro e w1 ⟨rfl, hb⟩
      have HB := Aside0.mk (below_step (pw_below_drewN (below_alloc (Below.refl _ _) _) _) hb)
      clear hb
      go_wp2
      go_ret
      exact ⟨by simp, HB.out⟩
  · have HW := Aside0.mk (show impl_within.f a0 1 100 = some false by rw [impl_PiecesFit.within]; simp [h1])
    go_enter Try.func59, Try.ntmps59
    go_wp2_with fail
    refine (impl_within.calls a0 1 100 false _ HW.out).mono ?_
    rintro e w1 ⟨rfl, ⟨⟨nd, rfl⟩⟩⟩
    go_wp2
    go_ret
    exact ⟨by simp [h1], pw_below_drewN (below_alloc (Below.refl _ _) _) _⟩

end Go.Proofs.Ytcmmammefghjdaa.XFnExactStripBound
