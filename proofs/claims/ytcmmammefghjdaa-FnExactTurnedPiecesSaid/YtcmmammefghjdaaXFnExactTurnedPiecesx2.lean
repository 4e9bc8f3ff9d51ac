/- What functions of the program compute, as plain Lean functions, and that Go's calls come to just that: written by wip/tools/xprint.py for the law FnExactTurnedPieces. -/
import Derived.Test.YtcmmammefghjdaaXFnExactTurnedPiecesx0
import Derived.Test.YtcmmammefghjdaaXFnExactTurnedPiecesx1
namespace Go.Proofs.Ytcmmammefghjdaa.XFnExactTurnedPieces
open Go.RowKit Go.Proofs.YtcmmammefghjdaaW.PrintWords Go.Proofs.YtcmmammefghjdaaW.PrintLast Go.Proofs.YtcmmammefghjdaaW.PrintMore
attribute [local go_sem] max2_int min2_int max_two min_two max_three min_three max_four min_four   -- for this text's walks alone
set_option linter.unusedVariables false
set_option linter.unusedSimpArgs false

/-! ### spec_PiecesFit: function 56 -/
mutual
def spec_PiecesFit.j0 : Nat → Int → List (List Int) → Bool → Option (Bool)
  | 0, _, _, _ => none
  | k + 1, x0, x1, x14 => if x14 = true then (some false) else (spec_PiecesFit.l0 k x0 x1 (x1.length : Int) 0)
def spec_PiecesFit.l0 : Nat → Int → List (List Int) → Int → Int → Option (Bool)
  | 0, _, _, _, _ => none
  | k + 1, x0, x15, x16, x17 => if x17 < x16 then (if 0 ≤ x17 then (if x17 < (x15.length : Int) then (if ((rd_L1 x15 x17).length : Int) = 2 then (if 0 < ((rd_L1 x15 x17).length : Int) then ((spec_l01In.f (rd (rd_L1 x15 x17) 0) 1 x0).bind fun t125 => (if t125 = true then (if 1 < ((rd_L1 x15 x17).length : Int) then ((spec_l01In.f (rd (rd_L1 x15 x17) 1) 1 100).bind fun t127 => (if t127 = true then (spec_PiecesFit.l0 k x0 x15 x16 (wrap64 (x17 + 1))) else (some false))) else (none)) else (some false))) else (none)) else (some false)) else (none)) else (none)) else (some true)
end
def spec_PiecesFit.f (k : Nat) (a0 : Int) (l1 : List (List Int)) : Option (Bool) := (spec_l01In.f a0 1 100).bind fun t122 => (if t122 = true then (spec_PiecesFit.j0 k a0 l1 (decide ((l1.length : Int) > 12))) else (spec_PiecesFit.j0 k a0 l1 true))
theorem spec_PiecesFit.mono_l : ∀ k, (∀ y0 y1 y2, LeO (spec_PiecesFit.j0 k y0 y1 y2) (spec_PiecesFit.j0 (k + 1) y0 y1 y2)) ∧ (∀ y0 y1 y2 y3, LeO (spec_PiecesFit.l0 k y0 y1 y2 y3) (spec_PiecesFit.l0 (k + 1) y0 y1 y2 y3))
  | 0 => ⟨fun _ _ _ r h => by simp [spec_PiecesFit.j0] at h, fun _ _ _ _ r h => by simp [spec_PiecesFit.l0] at h⟩
  | k + 1 => by
    obtain ⟨ih0, ih1⟩ := spec_PiecesFit.mono_l k
    refine ⟨?_, ?_⟩
    · intro y0 y1 y2
      unfold spec_PiecesFit.j0
      repeat' first
      | (with_reducible exact ih0 _ _ _)
      | (with_reducible exact ih1 _ _ _ _)
      | (with_reducible exact LeO.refl _)
      | (with_reducible exact LeO.none _)
      | (with_reducible refine LeO.ite ?_ ?_)
      | (with_reducible refine LeO.bind ?_ (fun _ => ?_))
      | exact ih0 _ _ _
      | exact ih1 _ _ _ _
      | exact LeO.none _
      | refine LeO.ite ?_ ?_
      | refine LeO.bind ?_ (fun _ => ?_)
    · intro y0 y1 y2 y3
      unfold spec_PiecesFit.l0
      repeat' first
      | (with_reducible exact ih0 _ _ _)
      | (with_reducible exact ih1 _ _ _ _)
      | (with_reducible exact LeO.refl _)
      | (with_reducible exact LeO.none _)
      | (with_reducible refine LeO.ite ?_ ?_)
      | (with_reducible refine LeO.bind ?_ (fun _ => ?_))
      | exact ih0 _ _ _
      | exact ih1 _ _ _ _
      | exact LeO.none _
      | refine LeO.ite ?_ ?_
      | refine LeO.bind ?_ (fun _ => ?_)
theorem spec_PiecesFit.mono : ∀ a0 a1 k, LeO (spec_PiecesFit.f k a0 a1) (spec_PiecesFit.f (k + 1) a0 a1) := by
  intro a0 a1 k
  obtain ⟨ih0, ih1⟩ := spec_PiecesFit.mono_l k
  unfold spec_PiecesFit.f
  repeat' first
      | (with_reducible exact ih0 _ _ _)
      | (with_reducible exact ih1 _ _ _ _)
      | (with_reducible exact LeO.refl _)
      | (with_reducible exact LeO.none _)
      | (with_reducible refine LeO.ite ?_ ?_)
      | (with_reducible refine LeO.bind ?_ (fun _ => ?_))
      | exact ih0 _ _ _
      | exact ih1 _ _ _ _
      | exact LeO.none _
      | refine LeO.ite ?_ ?_
      | refine LeO.bind ?_ (fun _ => ?_)
set_option maxHeartbeats 8000000 in
set_option maxRecDepth 100000 in
theorem spec_PiecesFit.calls (k : Nat) (a0 : Int) (A1 : Option Addr) (c1 : Nat) (l1 : List (List Int)) (r : Bool) (w : World) (hr1 : Kd.C (Kd.slice 3 (Kd.int .i64)) w A1 l1.length l1) (hc1 : l1.length ≤ c1) (h : spec_PiecesFit.f k a0 l1 = some r) :
    Calls Try.prog 56 #[.int .i64 a0, .slice A1 l1.length c1] w fun e w' => e = .returned (.bool r) ∧ Drawn0 w w' := by
  have HR1 := Aside0.mk hr1
  have HC1 := Aside0.mk hc1
  clear hr1 hc1
  have H : ((spec_l01In.f a0 1 100).bind fun t122 => (if t122 = true then (spec_PiecesFit.j0 k a0 l1 (decide ((l1.length : Int) > 12))) else (spec_PiecesFit.j0 k a0 l1 true))) = some r := h
  clear h
  have HC3 := Aside0.mk H
  clear H
  go_enter Try.func56, Try.ntmps56
  go_upto_region 1 with (fail)
  go_cut [14] (fun v14 wc => ∃ (kq : Nat) (x14_2 : Bool), v14 = .bool x14_2 ∧ Aside0 (spec_PiecesFit.j0 kq a0 l1 x14_2 = some r) ∧ Aside0 (kq ≤ k) ∧ Drawn0 w wc)
  case first =>
    have H := HC3.out
    clear HC3
    replace H := Option.bind_eq_some_iff.mp H
    obtain ⟨t122, A40, H⟩ := H
    replace H : (if t122 = true then (spec_PiecesFit.j0 k a0 l1 (decide ((l1.length : Int) > 12))) else (spec_PiecesFit.j0 k a0 l1 true)) = some r := H
    have A4 := Aside0.mk A40
    clear A40
    by_cases c5 : t122 = true
    · subst c5
      have H1 : (spec_PiecesFit.j0 k a0 l1 (decide ((l1.length : Int) > 12))) = some r := by rw [if_pos rfl] at H; exact H
      clear H
      have H := H1
      clear H1
      have H' := Aside0.mk H
      clear H
      go_wp2_with (first | ((with_reducible refine gate_callee (f := 57) rfl ?_); refine goesL_ (some 8) rfl rfl Try.func57 (by kernel_rfl) rfl #[.int .i64 a0, .int .i64 1, .int .i64 100] rfl (by (try simp only [List.map_toArray, List.map_cons, List.map_nil]); first | done | rfl | (simp only [List.length_drop, List.length_take]; rfl)) ?_; (with_reducible refine (spec_l01In.calls a0 1 100 true _ A4.out).mono ?_); rintro e w' ⟨rfl, ⟨nd, rfl⟩⟩; refine ⟨_, rfl, ?_⟩))
      go_meet
      case rel => exact ⟨_, (decide ((l1.length : Int) > 12)), (by first | rfl | (simp; done) | (simp [*]; done)), H', ⟨by first | omega | exact Nat.le_refl _⟩, by repeat (first | exact Drawn0.refl _ | apply Drawn0.step)⟩
    · replace c5 := Bool.eq_false_iff.mpr c5
      subst c5
      have H1 : (spec_PiecesFit.j0 k a0 l1 true) = some r := by rw [if_neg (show ¬ (false = true) by decide)] at H; exact H
      clear H
      have H := H1
      clear H1
      have H' := Aside0.mk H
      clear H
      go_wp2_with (first | ((with_reducible refine gate_callee (f := 57) rfl ?_); refine goesL_ (some 8) rfl rfl Try.func57 (by kernel_rfl) rfl #[.int .i64 a0, .int .i64 1, .int .i64 100] rfl (by (try simp only [List.map_toArray, List.map_cons, List.map_nil]); first | done | rfl | (simp only [List.length_drop, List.length_take]; rfl)) ?_; (with_reducible refine (spec_l01In.calls a0 1 100 false _ A4.out).mono ?_); rintro e w' ⟨rfl, ⟨nd, rfl⟩⟩; refine ⟨_, rfl, ?_⟩))
      go_meet
      case rel => exact ⟨_, (true), (by first | rfl | (simp; done) | (simp [*]; done)), H', ⟨by first | omega | exact Nat.le_refl _⟩, by repeat (first | exact Drawn0.refl _ | apply Drawn0.step)⟩
  case rest =>
    clear HC3
    try clear c1
    try clear p2
    try clear c5
    obtain ⟨kq, x14_2, rfl, HA, HJ2, ⟨mc2, rfl⟩⟩ := hcut
    cases kq with
    | zero => exact absurd HA.out (by simp [spec_PiecesFit.j0])
    | succ kj2 =>
      have H := HA.out
      clear HA
      simp only [spec_PiecesFit.j0] at H
      by_cases c6 : x14_2 = true
      · subst c6
        have H1 : (some false) = some r := by rw [if_pos rfl] at H; exact H
        clear H
        have H := H1
        clear H1
        obtain rfl := Option.some.inj H
        go_wp2
        go_ret
        exact ⟨by first | rfl | (simp; done) | (simp [*]; done), by repeat (first | exact Drawn0.refl _ | apply Drawn0.step)⟩
      · replace c6 := Bool.eq_false_iff.mpr c6
        subst c6
        have H1 : (spec_PiecesFit.l0 kj2 a0 l1 (l1.length : Int) 0) = some r := by rw [if_neg (show ¬ (false = true) by decide)] at H; exact H
        clear H
        have H := H1
        clear H1
        have H' := Aside0.mk H
        clear H
        go_wp2
        go_loopg [17] kj2 (fun kq v17 w' => ∃ (x17_2 : Int), v17 = .int .i64 x17_2 ∧ Aside0 (spec_PiecesFit.l0 kq a0 l1 (l1.length : Int) x17_2 = some r) ∧ Aside0 (kq ≤ kj2) ∧ Drawn0 w w')
        case atStart => exact ⟨(0), (by first | rfl | (simp; done) | (simp [*]; done)), H', ⟨Nat.le_refl _⟩, by repeat (first | exact Drawn0.refl _ | apply Drawn0.step)⟩
        case round =>
          clear H'
          try clear c1
          try clear c2
          try clear p2
          try clear c5
          try clear c6
          try clear p2
          obtain ⟨x17_2, rfl, HA, HK2, ⟨m2, rfl⟩⟩ := hrel
          cases gk with
          | zero => exact absurd HA.out (by simp [spec_PiecesFit.l0])
          | succ k2 =>
            have H := HA.out
            clear HA
            simp only [spec_PiecesFit.l0] at H
            by_cases c7 : x17_2 < (l1.length : Int)
            · rw [if_pos c7] at H
              have c7b0 : decide (x17_2 < (l1.length : Int)) = true := decide_eq_true c7
              clear c7
              by_cases c8 : 0 ≤ x17_2
              · rw [if_pos c8] at H
                have c8b0 : decide (0 ≤ x17_2) = true := decide_eq_true c8
                clear c8
                by_cases c9 : x17_2 < (l1.length : Int)
                · rw [if_pos c9] at H
                  have c9b0 : decide (x17_2 < (l1.length : Int)) = true := decide_eq_true c9
                  clear c9
                  by_cases c10 : ((rd_L1 l1 x17_2).length : Int) = 2
                  · rw [if_pos c10] at H
                    have c10b0 : (((rd_L1 l1 x17_2).length : Int) == 2) = true := beq_iff_eq.mpr c10
                    have c10b1 : (((rd_L1 l1 x17_2).length : Int) != 2) = false := bne_eq_false_iff_eq.mpr c10
                    clear c10
                    by_cases c11 : 0 < ((rd_L1 l1 x17_2).length : Int)
                    · rw [if_pos c11] at H
                      have c11b0 : decide (0 < ((rd_L1 l1 x17_2).length : Int)) = true := decide_eq_true c11
                      have c11b1 : decide (0 < (rd_L1 l1 x17_2).length) = true := decide_eq_true (by omega)
                      clear c11
                      replace H := Option.bind_eq_some_iff.mp H
                      obtain ⟨t125, A120, H⟩ := H
                      replace H : (if t125 = true then (if 1 < ((rd_L1 l1 x17_2).length : Int) then ((spec_l01In.f (rd (rd_L1 l1 x17_2) 1) 1 100).bind fun t127 => (if t127 = true then (spec_PiecesFit.l0 k2 a0 l1 (l1.length : Int) (wrap64 (x17_2 + 1))) else (some false))) else (none)) else (some false)) = some r := H
                      have A12 := Aside0.mk A120
                      clear A120
                      by_cases c13 : t125 = true
                      · subst c13
                        have H1 : (if 1 < ((rd_L1 l1 x17_2).length : Int) then ((spec_l01In.f (rd (rd_L1 l1 x17_2) 1) 1 100).bind fun t127 => (if t127 = true then (spec_PiecesFit.l0 k2 a0 l1 (l1.length : Int) (wrap64 (x17_2 + 1))) else (some false))) else (none)) = some r := by rw [if_pos rfl] at H; exact H
                        clear H
                        have H := H1
                        clear H1
                        by_cases c14 : 1 < ((rd_L1 l1 x17_2).length : Int)
                        · rw [if_pos c14] at H
                          have c14b0 : decide (1 < ((rd_L1 l1 x17_2).length : Int)) = true := decide_eq_true c14
                          have c14b1 : decide (1 < (rd_L1 l1 x17_2).length) = true := decide_eq_true (by omega)
                          clear c14
                          replace H := Option.bind_eq_some_iff.mp H
                          obtain ⟨t127, A150, H⟩ := H
                          replace H : (if t127 = true then (spec_PiecesFit.l0 k2 a0 l1 (l1.length : Int) (wrap64 (x17_2 + 1))) else (some false)) = some r := H
                          have A15 := Aside0.mk A150
                          clear A150
                          by_cases c16 : t127 = true
                          · subst c16
                            have H1 : (spec_PiecesFit.l0 k2 a0 l1 (l1.length : Int) (wrap64 (x17_2 + 1))) = some r := by rw [if_pos rfl] at H; exact H
                            clear H
                            have H := H1
                            clear H1
                            have H' := Aside0.mk H
                            clear H
                            have p123 : 0 ≤ (x17_2 : Int) := of_decide_eq_true (by first | (with_reducible assumption) | assumption)
                            have q123 : x17_2 < (l1.length : Int) := of_decide_eq_true (by first | (with_reducible assumption) | assumption)
                            obtain ⟨ad123, A123_0, c123_0, e123, hx123_0, hl123_0, hi123_0⟩ := at_L1 HR1.out x17_2 p123 q123
                            cases e123
                            have HR123_0 := Aside0.mk hi123_0
                            have HC123_0 := Aside0.mk hl123_0
                            clear hi123_0 hl123_0
                            replace p123 := eq_true p123
                            replace q123 := eq_true q123
                            have p124 : 0 ≤ (0 : Int) := (by omega)
                            have q124 : 0 < ((rd_L1 l1 x17_2).length : Int) := of_decide_eq_true (by first | (with_reducible assumption) | assumption)
                            obtain ⟨ad124, e124, hx124_0⟩ := Kd.at_int HR123_0.out 0 p124 q124
                            cases e124
                            have qi124 : (0 < (rd_L1 l1 x17_2).length) = True := eq_true (by omega)
                            (try rw [show ((0 : Int)).toNat = 0 from rfl] at hx124_0)
                            (try rw [Addr.add_zero'] at hx124_0)
                            replace p124 := eq_true p124
                            replace q124 := eq_true q124
                            go_wp2_with (first | (go_at_call 57; (with_reducible refine (spec_l01In.calls (rd (rd_L1 l1 x17_2) 0) 1 a0 true _ A12.out).mono ?_); rintro e w' ⟨rfl, ⟨nd, rfl⟩⟩; have p126 : 0 ≤ (1 : Int) := (by omega); have q126 : 1 < ((rd_L1 l1 x17_2).length : Int) := of_decide_eq_true (by first | (with_reducible assumption) | assumption); obtain ⟨ad126, e126, hx126_0⟩ := Kd.at_int HR123_0.out 1 p126 q126; obtain rfl : ad124 = ad126 := (by injection e126); (try simp only [show (1 : Int).toNat = 1 from rfl, Nat.reduceMul, Nat.reduceEqDiff, Go.Addr.add, ↓reduceIte] at hx126_0); have qi126 : (1 < (rd_L1 l1 x17_2).length) = True := eq_true (by omega); (try rw [show ((1 : Int)).toNat = 1 from rfl] at hx126_0); replace p126 := eq_true p126; replace q126 := eq_true q126) | (go_at_call 57; (with_reducible refine (spec_l01In.calls (rd (rd_L1 l1 x17_2) 1) 1 100 true _ A15.out).mono ?_); rintro e w' ⟨rfl, ⟨nd, rfl⟩⟩))
                            go_roundg k2
                            case measure => have := HJ2.out; have := HK2.out; omega
                            case rel => exact ⟨(wrap64 (x17_2 + 1)), (by first | rfl | (simp; done) | (simp [*]; done)), H', ⟨by have := HJ2.out; have := HK2.out; omega⟩, by repeat (first | exact Drawn0.refl _ | apply Drawn0.step)⟩
                          · replace c16 := Bool.eq_false_iff.mpr c16
                            subst c16
                            have H1 : (some false) = some r := by rw [if_neg (show ¬ (false = true) by decide)] at H; exact H
                            clear H
                            have H := H1
                            clear H1
                            obtain rfl := Option.some.inj H
                            have p123 : 0 ≤ (x17_2 : Int) := of_decide_eq_true (by first | (with_reducible assumption) | assumption)
                            have q123 : x17_2 < (l1.length : Int) := of_decide_eq_true (by first | (with_reducible assumption) | assumption)
                            obtain ⟨ad123, A123_0, c123_0, e123, hx123_0, hl123_0, hi123_0⟩ := at_L1 HR1.out x17_2 p123 q123
                            cases e123
                            have HR123_0 := Aside0.mk hi123_0
                            have HC123_0 := Aside0.mk hl123_0
                            clear hi123_0 hl123_0
                            replace p123 := eq_true p123
                            replace q123 := eq_true q123
                            have p124 : 0 ≤ (0 : Int) := (by omega)
                            have q124 : 0 < ((rd_L1 l1 x17_2).length : Int) := of_decide_eq_true (by first | (with_reducible assumption) | assumption)
                            obtain ⟨ad124, e124, hx124_0⟩ := Kd.at_int HR123_0.out 0 p124 q124
                            cases e124
                            have qi124 : (0 < (rd_L1 l1 x17_2).length) = True := eq_true (by omega)
                            (try rw [show ((0 : Int)).toNat = 0 from rfl] at hx124_0)
                            (try rw [Addr.add_zero'] at hx124_0)
                            replace p124 := eq_true p124
                            replace q124 := eq_true q124
                            go_wp2_with (first | (go_at_call 57; (with_reducible refine (spec_l01In.calls (rd (rd_L1 l1 x17_2) 0) 1 a0 true _ A12.out).mono ?_); rintro e w' ⟨rfl, ⟨nd, rfl⟩⟩; have p126 : 0 ≤ (1 : Int) := (by omega); have q126 : 1 < ((rd_L1 l1 x17_2).length : Int) := of_decide_eq_true (by first | (with_reducible assumption) | assumption); obtain ⟨ad126, e126, hx126_0⟩ := Kd.at_int HR123_0.out 1 p126 q126; obtain rfl : ad124 = ad126 := (by injection e126); (try simp only [show (1 : Int).toNat = 1 from rfl, Nat.reduceMul, Nat.reduceEqDiff, Go.Addr.add, ↓reduceIte] at hx126_0); have qi126 : (1 < (rd_L1 l1 x17_2).length) = True := eq_true (by omega); (try rw [show ((1 : Int)).toNat = 1 from rfl] at hx126_0); replace p126 := eq_true p126; replace q126 := eq_true q126) | (go_at_call 57; (with_reducible refine (spec_l01In.calls (rd (rd_L1 l1 x17_2) 1) 1 100 false _ A15.out).mono ?_); rintro e w' ⟨rfl, ⟨nd, rfl⟩⟩))
                            go_ret
                            exact ⟨by first | rfl | (simp; done) | (simp [*]; done), by repeat (first | exact Drawn0.refl _ | apply Drawn0.step)⟩
                        · rw [if_neg c14] at H
                          exact absurd H (by simp)
                      · replace c13 := Bool.eq_false_iff.mpr c13
                        subst c13
                        have H1 : (some false) = some r := by rw [if_neg (show ¬ (false = true) by decide)] at H; exact H
                        clear H
                        have H := H1
                        clear H1
                        obtain rfl := Option.some.inj H
                        have p123 : 0 ≤ (x17_2 : Int) := of_decide_eq_true (by first | (with_reducible assumption) | assumption)
                        have q123 : x17_2 < (l1.length : Int) := of_decide_eq_true (by first | (with_reducible assumption) | assumption)
                        obtain ⟨ad123, A123_0, c123_0, e123, hx123_0, hl123_0, hi123_0⟩ := at_L1 HR1.out x17_2 p123 q123
                        cases e123
                        have HR123_0 := Aside0.mk hi123_0
                        have HC123_0 := Aside0.mk hl123_0
                        clear hi123_0 hl123_0
                        replace p123 := eq_true p123
                        replace q123 := eq_true q123
                        have p124 : 0 ≤ (0 : Int) := (by omega)
                        have q124 : 0 < ((rd_L1 l1 x17_2).length : Int) := of_decide_eq_true (by first | (with_reducible assumption) | assumption)
                        obtain ⟨ad124, e124, hx124_0⟩ := Kd.at_int HR123_0.out 0 p124 q124
                        cases e124
                        have qi124 : (0 < (rd_L1 l1 x17_2).length) = True := eq_true (by omega)
                        (try rw [show ((0 : Int)).toNat = 0 from rfl] at hx124_0)
                        (try rw [Addr.add_zero'] at hx124_0)
                        replace p124 := eq_true p124
                        replace q124 := eq_true q124
                        go_wp2_with (first | (go_at_call 57; (with_reducible refine (spec_l01In.calls (rd (rd_L1 l1 x17_2) 0) 1 a0 false _ A12.out).mono ?_); rintro e w' ⟨rfl, ⟨nd, rfl⟩⟩))
                        go_ret
                        exact ⟨by first | rfl | (simp; done) | (simp [*]; done), by repeat (first | exact Drawn0.refl _ | apply Drawn0.step)⟩
                    · rw [if_neg c11] at H
                      exact absurd H (by simp)
                  · rw [if_neg c10] at H
                    have c10b0 : (((rd_L1 l1 x17_2).length : Int) == 2) = false := beq_eq_false_iff_ne.mpr c10
                    have c10b1 : (((rd_L1 l1 x17_2).length : Int) != 2) = true := bne_iff_ne.mpr c10
                    obtain rfl := Option.some.inj H
                    have p123 : 0 ≤ (x17_2 : Int) := of_decide_eq_true (by first | (with_reducible assumption) | assumption)
                    have q123 : x17_2 < (l1.length : Int) := of_decide_eq_true (by first | (with_reducible assumption) | assumption)
                    obtain ⟨ad123, A123_0, c123_0, e123, hx123_0, hl123_0, hi123_0⟩ := at_L1 HR1.out x17_2 p123 q123
                    cases e123
                    have HR123_0 := Aside0.mk hi123_0
                    have HC123_0 := Aside0.mk hl123_0
                    clear hi123_0 hl123_0
                    replace p123 := eq_true p123
                    replace q123 := eq_true q123
                    go_wp2
                    go_ret
                    exact ⟨by first | rfl | (simp; done) | (simp [*]; done), by repeat (first | exact Drawn0.refl _ | apply Drawn0.step)⟩
                · rw [if_neg c9] at H
                  exact absurd H (by simp)
              · rw [if_neg c8] at H
                exact absurd H (by simp)
            · rw [if_neg c7] at H
              have c7b0 : decide (x17_2 < (l1.length : Int)) = false := decide_eq_false c7
              clear c7
              obtain rfl := Option.some.inj H
              go_wp2
              go_ret
              exact ⟨by first | rfl | (simp; done) | (simp [*]; done), by repeat (first | exact Drawn0.refl _ | apply Drawn0.step)⟩

end Go.Proofs.Ytcmmammefghjdaa.XFnExactTurnedPieces
