/- What functions of the program compute, as plain Lean functions, and that Go's calls come to just that: written by wip/tools/xprint.py for the law FnExactFirstFit. -/
import Derived.Test.YtcmmammefghjdaaXFnExactFirstFitx0
namespace Go.Proofs.Ytcmmammefghjdaa.XFnExactFirstFit
open Go.RowKit Go.Proofs.YtcmmammefghjdaaW.PrintWords Go.Proofs.YtcmmammefghjdaaW.PrintLast Go.Proofs.YtcmmammefghjdaaW.PrintMore
attribute [local go_sem] max2_int min2_int max_two min_two max_three min_three max_four min_four   -- for this text's walks alone
set_option linter.unusedVariables false
set_option linter.unusedSimpArgs false

/-! ### impl_within: function 60 -/
def impl_within.f (a0 : Int) (a1 : Int) (a2 : Int) : Option (Bool) := if a0 ≥ a1 then (some (decide (a0 ≤ a2))) else (some false)
set_option maxHeartbeats 8000000 in
set_option maxRecDepth 100000 in
theorem impl_within.calls (a0 : Int) (a1 : Int) (a2 : Int) (r : Bool) (w : World) (h : impl_within.f a0 a1 a2 = some r) :
    Calls Try.prog 60 #[.int .i64 a0, .int .i64 a1, .int .i64 a2] w fun e w' => e = .returned (.bool r) ∧ Drawn0 w w' := by
  have H : (if a0 ≥ a1 then (some (decide (a0 ≤ a2))) else (some false)) = some r := h
  clear h
  by_cases c4 : a0 ≥ a1
  · rw [if_pos c4] at H
    have c4b0 : decide (a1 ≤ a0) = true := decide_eq_true c4
    clear c4
    obtain rfl := Option.some.inj H
    go_enter Try.func60, Try.ntmps60
    go_wp2
    go_ret
    exact ⟨by first | rfl | (simp; done) | (simp [*]; done), by repeat (first | exact Drawn0.refl _ | apply Drawn0.step)⟩
  · rw [if_neg c4] at H
    have c4b0 : decide (a1 ≤ a0) = false := decide_eq_false c4
    clear c4
    obtain rfl := Option.some.inj H
    go_enter Try.func60, Try.ntmps60
    go_wp2
    go_ret
    exact ⟨by first | rfl | (simp; done) | (simp [*]; done), by repeat (first | exact Drawn0.refl _ | apply Drawn0.step)⟩

-- NOT PRINTED: function 90 (slices_IndexFunc_int_int)

-- NOT PRINTED: function 79 (slices_ContainsFunc_int_int)

/-! ### impl_BarsOk: function 54 -/
def impl_BarsOk.f (a0 : Int) (l1 : List Int) : Option (Bool) := some (decide (1 ≤ a0 ∧ a0 ≤ 1000) && (decide (l1.length ≤ 8) && l1.all fun p => decide (1 ≤ p ∧ p ≤ a0)))
theorem impl_BarsOk.within (a b c : Int) : impl_within.f a b c = some (decide (b ≤ a ∧ a ≤ c)) := by
  unfold impl_within.f
  by_cases h : a ≥ b
  · rw [if_pos h]; simp [show b ≤ a from h]
  · rw [if_neg h]; simp [show ¬ b ≤ a from h]
theorem impl_BarsOk.lit (a0 x : Int) (B : Nat) (W : World) (hc : W.cell? ⟨B, 0, none⟩ = some (.int .i64 a0)) :
    Calls Try.prog 80 #[.int .i64 x, .pointer (some ⟨B, 0, none⟩)] W fun e w' => e = .returned (.bool (!decide (1 ≤ x ∧ x ≤ a0))) ∧ Drawn0 W w' := by
  go_enter Try.func80, Try.ntmps80
  go_wp2_with fail
  refine (impl_within.calls x 1 a0 _ _ (impl_BarsOk.within x 1 a0)).mono ?_
  rintro e w1 ⟨rfl, ⟨⟨nd, rfl⟩⟩⟩
  go_wp2
  go_ret
  exact ⟨by simp, ⟨⟨_, rfl⟩⟩⟩
theorem impl_BarsOk.calls (a0 : Int) (A1 : Option Addr) (c1 : Nat) (l1 : List Int) (r : Bool) (w : World) (hr1 : Kd.C (Kd.int .i64) w A1 l1.length l1) (hc1 : l1.length ≤ c1) (h : impl_BarsOk.f a0 l1 = some r) :
    Calls Try.prog 54 #[.int .i64 a0, .slice A1 l1.length c1] w fun e w' => e = .returned (.bool r) ∧ Below w.heap.size w w' := by
  have HC : ∀ W : World, Below w.heap.size w W → W.cell? ⟨w.heap.size, 0, none⟩ = some (.int .i64 a0) → w.heap.size < W.heap.size →
      Calls Try.prog 79 #[.slice A1 l1.length c1, .func (.func 80) #[] #[.pointer (some ⟨w.heap.size, 0, none⟩)]] W fun e w' => e = .returned (.bool (!(l1.all fun p => decide (1 ≤ p ∧ p ≤ a0)))) ∧ Below W.heap.size W w' := by
    intro W hb hcell hlt
    have e3 : ((l1.map fun p => !decide (1 ≤ p ∧ p ≤ a0)).any id) = !(l1.all fun p => decide (1 ≤ p ∧ p ≤ a0)) := by
      simp [List.any_map, Function.comp_def, List.not_all_eq_any_not]
    rw [← e3]
    have := Hof.ContainsFunc_int 80 #[.pointer (some ⟨w.heap.size, 0, none⟩)] (enters_of Try.func80 (by kernel_rfl) rfl) A1 c1 (l1.map (Value.int .i64)) (l1.map fun p => !decide (1 ≤ p ∧ p ≤ a0)) W (by simp) (Hof.reads_int (Kd.C_below hr1 hb)) ?_
    · rwa [List.length_map] at this
    · intro W1 j hj hb1
      rw [List.length_map] at hj
      have e1 : (l1.map (Value.int .i64)).getD j (.bool false) = .int .i64 (l1[j]) := by simp [List.getD_eq_getElem?_getD, hj]
      have e2 : (l1.map fun p => !decide (1 ≤ p ∧ p ≤ a0)).getD j false = !decide (1 ≤ l1[j] ∧ l1[j] ≤ a0) := by simp [List.getD_eq_getElem?_getD, hj]
      rw [e1, e2]
      exact (impl_BarsOk.lit a0 (l1[j]) w.heap.size W1 ((hb1.cell hlt).trans hcell)).mono fun e w' ⟨h1, h2⟩ => ⟨h1, h2.below⟩
  obtain rfl := Option.some.inj h
  clear h hr1
  generalize (l1.all fun p => decide (1 ≤ p ∧ p ≤ a0)) = q at HC ⊢
  have HCA := Aside0.mk HC
  clear HC
  by_cases h1 : 1 ≤ a0 ∧ a0 ≤ 1000
  · have HW := Aside0.mk (show impl_within.f a0 1 1000 = some true by rw [impl_BarsOk.within]; simp [h1])
    by_cases h2 : l1.length ≤ 8
    · have h2b : decide (l1.length ≤ 8) = true := decide_eq_true h2
      have h2c : decide ((l1.length : Int) ≤ 8) = true := decide_eq_true (by omega)
      go_enter Try.func54, Try.ntmps54
      go_wp2_with fail
      refine (impl_within.calls a0 1 1000 true _ HW.out).mono ?_
      rintro e w1 ⟨rfl, ⟨⟨nd, rfl⟩⟩⟩
      go_wp2_with fail
      refine (HCA.out _ (pw_below_drewN (below_alloc (Below.refl _ _) _) _) (by simp) (by simp)).mono ?_
      rintro e w1 ⟨rfl, hb⟩
      have HB := Aside0.mk (below_step (pw_below_drewN (below_alloc (Below.refl _ _) _) _) hb)
      clear hb
      go_wp2
      go_ret
      exact ⟨by simp [h1, h2], HB.out⟩
    · have h2b : decide (l1.length ≤ 8) = false := decide_eq_false h2
      have h2c : decide ((l1.length : Int) ≤ 8) = false := decide_eq_false (by omega)
      go_enter Try.func54, Try.ntmps54
      go_wp2_with fail
      refine (impl_within.calls a0 1 1000 true _ HW.out).mono ?_
      rintro e w1 ⟨rfl, ⟨⟨nd, rfl⟩⟩⟩
      go_wp2
      go_ret
      exact ⟨by simp [h2], pw_below_drewN (below_alloc (Below.refl _ _) _) _⟩
  · have HW := Aside0.mk (show impl_within.f a0 1 1000 = some false by rw [impl_BarsOk.within]; simp [h1])
    go_enter Try.func54, Try.ntmps54
    go_wp2_with fail
    refine (impl_within.calls a0 1 1000 false _ HW.out).mono ?_
    rintro e w1 ⟨rfl, ⟨⟨nd, rfl⟩⟩⟩
    go_wp2
    go_ret
    exact ⟨by simp [h1], pw_below_drewN (below_alloc (Below.refl _ _) _) _⟩

end Go.Proofs.Ytcmmammefghjdaa.XFnExactFirstFit
