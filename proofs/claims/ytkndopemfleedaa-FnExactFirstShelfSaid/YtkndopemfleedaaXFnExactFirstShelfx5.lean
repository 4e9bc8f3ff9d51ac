/- What functions of the program compute, as plain Lean functions, and that Go's calls come to just that: written by wip/tools/xprint.py for the law FnExactFirstShelf. -/
import Derived.Test.YtkndopemfleedaaXFnExactFirstShelfx0
import Derived.Test.YtkndopemfleedaaXFnExactFirstShelfx2
import Derived.Test.YtkndopemfleedaaXFnExactFirstShelfx4
namespace Go.Proofs.Ytkndopemfleedaa.XFnExactFirstShelf
open Go.RowKit Go.Proofs.YtkndopemfleedaaW.PrintWords Go.Proofs.YtkndopemfleedaaW.PrintLast Go.Proofs.YtkndopemfleedaaW.PrintMore
attribute [local go_sem] max2_int min2_int max_two min_two max_three min_three max_four min_four   -- for this text's walks alone
set_option linter.unusedVariables false
set_option linter.unusedSimpArgs false

/-! ### spec_FirstShelf: function 22 -/
def spec_FirstShelf.f (k : Nat) (a0 : Int) (l1 : List (List Int)) : Option ((List (S40)) × Int) := (spec_PiecesFit.f k a0 l1).bind fun t210 => (if t210 = true then ((spec_l15Lay.f k a0 l1 false).bind fun bt211 => (some (bt211.1, bt211.2))) else (some (([] : List (S40)), (-1))))
theorem spec_FirstShelf.mono : ∀ a0 a1 k, LeO (spec_FirstShelf.f k a0 a1) (spec_FirstShelf.f (k + 1) a0 a1) := by
  intro a0 a1 k
  unfold spec_FirstShelf.f
  repeat' first
      | (with_reducible exact spec_PiecesFit.mono _ _ _)
      | (with_reducible exact spec_l15Lay.mono _ _ _ _)
      | (with_reducible exact LeO.refl _)
      | (with_reducible exact LeO.none _)
      | (with_reducible refine LeO.ite ?_ ?_)
      | (with_reducible refine LeO.bind ?_ (fun _ => ?_))
      | exact spec_PiecesFit.mono _ _ _
      | exact spec_l15Lay.mono _ _ _ _
      | exact LeO.none _
      | refine LeO.ite ?_ ?_
      | refine LeO.bind ?_ (fun _ => ?_)
set_option maxHeartbeats 8000000 in
set_option maxRecDepth 100000 in
theorem spec_FirstShelf.calls (k : Nat) (a0 : Int) (A1 : Option Addr) (c1 : Nat) (l1 : List (List Int)) (r1 : List (S40)) (r2 : Int) (w : World) (hr1 : Kd.C (Kd.slice 3 (Kd.int .i64)) w A1 l1.length l1) (hc1 : l1.length ≤ c1) (h : spec_FirstShelf.f k a0 l1 = some (r1, r2)) :
    Calls Try.prog 22 #[.int .i64 a0, .slice A1 l1.length c1] w fun e w' => ∃ v0_ : Value, e = .returned (.tuple #[v0_, .int .i64 r2]) ∧ Kd.R k40 40 w' w.heap.size (fun _ => True) v0_ r1 ∧ Below w.heap.size w w' := by
  have HR1 := Aside0.mk hr1
  have HC1 := Aside0.mk hc1
  clear hr1 hc1
  have HB := Aside0.mk (Below.refl w.heap.size w)
  have H : ((spec_PiecesFit.f k a0 l1).bind fun t210 => (if t210 = true then ((spec_l15Lay.f k a0 l1 false).bind fun bt211 => (some (bt211.1, bt211.2))) else (some (([] : List (S40)), (-1))))) = some (r1, r2) := h
  clear h
  replace H := Option.bind_eq_some_iff.mp H
  obtain ⟨t210, A30, H⟩ := H
  replace H : (if t210 = true then ((spec_l15Lay.f k a0 l1 false).bind fun bt211 => (some (bt211.1, bt211.2))) else (some (([] : List (S40)), (-1)))) = some (r1, r2) := H
  have A3 := Aside0.mk A30
  clear A30
  by_cases c4 : t210 = true
  · subst c4
    have H1 : ((spec_l15Lay.f k a0 l1 false).bind fun bt211 => (some (bt211.1, bt211.2))) = some (r1, r2) := by rw [if_pos rfl] at H; exact H
    clear H
    have H := H1
    clear H1
    replace H := Option.bind_eq_some_iff.mp H
    obtain ⟨⟨t211, t212⟩, A50, H⟩ := H
    replace H : (some (t211, t212)) = some (r1, r2) := H
    have A5 := Aside0.mk A50
    clear A50
    simp only [Option.some.injEq, Prod.mk.injEq] at H
    obtain ⟨rfl, rfl⟩ := H
    go_enter Try.func22, Try.ntmps22
    go_wp2_with (first | ((with_reducible refine gate_callee (f := 47) rfl ?_); refine goesL_ (some 8) rfl rfl Try.func47 (by kernel_rfl) rfl #[.int .i64 a0, .slice A1 l1.length c1] rfl (by (try simp only [List.map_toArray, List.map_cons, List.map_nil]); first | done | rfl | (simp only [List.length_drop, List.length_take]; rfl)) ?_; (with_reducible refine (spec_PiecesFit.calls k a0 _ _ l1 true _ ?side1 ?side2 A3.out).mono ?_); (case side1 => repeat (first | exact HR1.out | (with_reducible refine Kd.C_alloc ?_ _) | (with_reducible refine Kd.C_drewN ?_ _) | (with_reducible refine Kd.C_drew ?_))); (case side2 => exact HC1.out); rintro e w' ⟨rfl, ⟨nd, rfl⟩⟩; refine ⟨_, rfl, ?_⟩) | ((with_reducible refine gate_callee (f := 48) rfl ?_); refine goesL_ (some 12) rfl rfl Try.func48 (by kernel_rfl) rfl #[.int .i64 a0, .slice A1 l1.length c1, .bool false] rfl (by (try simp only [List.map_toArray, List.map_cons, List.map_nil]); first | done | rfl | (simp only [List.length_drop, List.length_take]; rfl)) ?_; (with_reducible refine (spec_l15Lay.calls k a0 _ _ l1 false t211 t212 _ ?side1 ?side2 A5.out).mono ?_); (case side1 => repeat (first | exact HR1.out | (with_reducible refine Kd.C_alloc ?_ _) | (with_reducible refine Kd.C_drewN ?_ _) | (with_reducible refine Kd.C_drew ?_))); (case side2 => exact HC1.out); rintro e w6 ⟨v213, rfl, ho0, hb⟩; refine ⟨_, rfl, ?_⟩; have n0_ := Aside0.mk (Kd.R_lower ho0 (below_size (by repeat (first | (with_reducible first | exact HB.out | apply below_alloc | apply pw_below_drewN | apply below_drew1) | exact HB.out)))); have n1_ := Aside0.mk (below_step (by repeat (first | (with_reducible first | exact HB.out | apply below_alloc | apply pw_below_drewN | apply below_drew1) | exact HB.out)) hb); clear HB; have HO214 := n0_; have HB := n1_; clear n0_ n1_; (try clear hb); (try clear hb2); (try clear hk); (try clear hi); (try clear ho0)))
    go_ret2
    exact ⟨_, by first | rfl | (simp [errW_none, errW_some] <;> rfl) | (simp [*, errW_none, errW_some] <;> rfl), by (with_reducible repeat (first | apply Kd.R_alloc | apply Kd.R_drewN | apply Kd.R_drew)); exact HO214.out, by repeat (first | (with_reducible first | exact HB.out | apply below_alloc | apply pw_below_drewN | apply below_drew1) | exact HB.out)⟩
  · replace c4 := Bool.eq_false_iff.mpr c4
    subst c4
    have H1 : (some (([] : List (S40)), (-1))) = some (r1, r2) := by rw [if_neg (show ¬ (false = true) by decide)] at H; exact H
    clear H
    have H := H1
    clear H1
    simp only [Option.some.injEq, Prod.mk.injEq] at H
    obtain ⟨rfl, rfl⟩ := H
    go_enter Try.func22, Try.ntmps22
    go_wp2_with (first | ((with_reducible refine gate_callee (f := 47) rfl ?_); refine goesL_ (some 8) rfl rfl Try.func47 (by kernel_rfl) rfl #[.int .i64 a0, .slice A1 l1.length c1] rfl (by (try simp only [List.map_toArray, List.map_cons, List.map_nil]); first | done | rfl | (simp only [List.length_drop, List.length_take]; rfl)) ?_; (with_reducible refine (spec_PiecesFit.calls k a0 _ _ l1 false _ ?side1 ?side2 A3.out).mono ?_); (case side1 => repeat (first | exact HR1.out | (with_reducible refine Kd.C_alloc ?_ _) | (with_reducible refine Kd.C_drewN ?_ _) | (with_reducible refine Kd.C_drew ?_))); (case side2 => exact HC1.out); rintro e w' ⟨rfl, ⟨nd, rfl⟩⟩; refine ⟨_, rfl, ?_⟩))
    go_ret2
    exact ⟨_, by first | rfl | (simp [errW_none, errW_some] <;> rfl) | (simp [*, errW_none, errW_some] <;> rfl), by first | exact Kd.R_nil _ _ _ _ _ | exact Kd.N_nil _ _ _ _ _ | exact Kd.V_nil _ _ _ _ _ | exact Kd.Q_nil _ _ _ _ _ | exact Kd.S_nil _ _ _ _ _, by repeat (first | (with_reducible first | exact HB.out | apply below_alloc | apply pw_below_drewN | apply below_drew1) | exact HB.out)⟩

-- NOT PRINTED: function 103 (slices_IndexFunc_int_int)

-- NOT PRINTED: function 67 (slices_ContainsFunc_int_int)

/-! ### impl_within: function 75 -/
def impl_within.f (a0 : Int) (a1 : Int) (a2 : Int) : Option (Bool) := if a0 ≥ a1 then (some (decide (a0 ≤ a2))) else (some false)
set_option maxHeartbeats 8000000 in
set_option maxRecDepth 100000 in
theorem impl_within.calls (a0 : Int) (a1 : Int) (a2 : Int) (r : Bool) (w : World) (h : impl_within.f a0 a1 a2 = some r) :
    Calls Try.prog 75 #[.int .i64 a0, .int .i64 a1, .int .i64 a2] w fun e w' => e = .returned (.bool r) ∧ Drawn0 w w' := by
  have H : (if a0 ≥ a1 then (some (decide (a0 ≤ a2))) else (some false)) = some r := h
  clear h
  by_cases c4 : a0 ≥ a1
  · rw [if_pos c4] at H
    have c4b0 : decide (a1 ≤ a0) = true := decide_eq_true c4
    clear c4
    obtain rfl := Option.some.inj H
    go_enter Try.func75, Try.ntmps75
    go_wp2
    go_ret
    exact ⟨by first | rfl | (simp; done) | (simp [*]; done), by repeat (first | exact Drawn0.refl _ | apply Drawn0.step)⟩
  · rw [if_neg c4] at H
    have c4b0 : decide (a1 ≤ a0) = false := decide_eq_false c4
    clear c4
    obtain rfl := Option.some.inj H
    go_enter Try.func75, Try.ntmps75
    go_wp2
    go_ret
    exact ⟨by first | rfl | (simp; done) | (simp [*]; done), by repeat (first | exact Drawn0.refl _ | apply Drawn0.step)⟩

/-! ### impl_arePieces_1: function 140 -/
def impl_arePieces_1.f (l0 : List Int) : Option (Bool) := if (l0.length : Int) = 2 then (if 0 < (l0.length : Int) then ((impl_within.f (rd l0 0) 1 100).bind fun t216 => (if t216 = true then (if 1 < (l0.length : Int) then ((impl_within.f (rd l0 1) 1 100).bind fun t218 => (some (!t218))) else (none)) else (some true))) else (none)) else (some true)
set_option maxHeartbeats 8000000 in
set_option maxRecDepth 100000 in
theorem impl_arePieces_1.calls (A0 : Option Addr) (c0 : Nat) (l0 : List Int) (r : Bool) (w : World) (hr0 : Kd.C (Kd.int .i64) w A0 l0.length l0) (hc0 : l0.length ≤ c0) (h : impl_arePieces_1.f l0 = some r) :
    Calls Try.prog 140 #[.slice A0 l0.length c0] w fun e w' => e = .returned (.bool r) ∧ Drawn0 w w' := by
  have HR0 := Aside0.mk hr0
  have HC0 := Aside0.mk hc0
  clear hr0 hc0
  have H : (if (l0.length : Int) = 2 then (if 0 < (l0.length : Int) then ((impl_within.f (rd l0 0) 1 100).bind fun t216 => (if t216 = true then (if 1 < (l0.length : Int) then ((impl_within.f (rd l0 1) 1 100).bind fun t218 => (some (!t218))) else (none)) else (some true))) else (none)) else (some true)) = some r := h
  clear h
  by_cases c2 : (l0.length : Int) = 2
  · rw [if_pos c2] at H
    have c2b0 : ((l0.length : Int) == 2) = true := beq_iff_eq.mpr c2
    have c2b1 : ((l0.length : Int) != 2) = false := bne_eq_false_iff_eq.mpr c2
    clear c2
    by_cases c3 : 0 < (l0.length : Int)
    · rw [if_pos c3] at H
      have c3b0 : decide (0 < (l0.length : Int)) = true := decide_eq_true c3
      have c3b1 : decide (0 < l0.length) = true := decide_eq_true (by omega)
      clear c3
      replace H := Option.bind_eq_some_iff.mp H
      obtain ⟨t216, A40, H⟩ := H
      replace H : (if t216 = true then (if 1 < (l0.length : Int) then ((impl_within.f (rd l0 1) 1 100).bind fun t218 => (some (!t218))) else (none)) else (some true)) = some r := H
      have A4 := Aside0.mk A40
      clear A40
      by_cases c5 : t216 = true
      · subst c5
        have H1 : (if 1 < (l0.length : Int) then ((impl_within.f (rd l0 1) 1 100).bind fun t218 => (some (!t218))) else (none)) = some r := by rw [if_pos rfl] at H; exact H
        clear H
        have H := H1
        clear H1
        by_cases c6 : 1 < (l0.length : Int)
        · rw [if_pos c6] at H
          have c6b0 : decide (1 < (l0.length : Int)) = true := decide_eq_true c6
          have c6b1 : decide (1 < l0.length) = true := decide_eq_true (by omega)
          clear c6
          replace H := Option.bind_eq_some_iff.mp H
          obtain ⟨t218, A70, H⟩ := H
          replace H : (some (!t218)) = some r := H
          have A7 := Aside0.mk A70
          clear A70
          obtain rfl := Option.some.inj H
          have p215 : 0 ≤ (0 : Int) := (by omega)
          have q215 : 0 < (l0.length : Int) := of_decide_eq_true (by first | (with_reducible assumption) | assumption)
          obtain ⟨ad215, e215, hx215_0⟩ := Kd.at_int HR0.out 0 p215 q215
          cases e215
          have qi215 : (0 < l0.length) = True := eq_true (by omega)
          (try rw [show ((0 : Int)).toNat = 0 from rfl] at hx215_0)
          (try rw [Addr.add_zero'] at hx215_0)
          replace p215 := eq_true p215
          replace q215 := eq_true q215
          go_enter Try.func140, Try.ntmps140
          go_wp2_with (first | (go_at_call 75; (with_reducible refine (impl_within.calls (rd l0 0) 1 100 true _ A4.out).mono ?_); rintro e w' ⟨rfl, ⟨nd, rfl⟩⟩; have p217 : 0 ≤ (1 : Int) := (by omega); have q217 : 1 < (l0.length : Int) := of_decide_eq_true (by first | (with_reducible assumption) | assumption); obtain ⟨ad217, e217, hx217_0⟩ := Kd.at_int HR0.out 1 p217 q217; obtain rfl : ad215 = ad217 := (by injection e217); (try simp only [show (1 : Int).toNat = 1 from rfl, Nat.reduceMul, Nat.reduceEqDiff, Go.Addr.add, ↓reduceIte] at hx217_0); have qi217 : (1 < l0.length) = True := eq_true (by omega); (try rw [show ((1 : Int)).toNat = 1 from rfl] at hx217_0); replace p217 := eq_true p217; replace q217 := eq_true q217) | (go_at_call 75; (with_reducible refine (impl_within.calls (rd l0 1) 1 100 t218 _ A7.out).mono ?_); rintro e w' ⟨rfl, ⟨nd, rfl⟩⟩))
          go_ret
          exact ⟨by first | rfl | (simp; done) | (simp [*]; done), by repeat (first | exact Drawn0.refl _ | apply Drawn0.step)⟩
        · rw [if_neg c6] at H
          exact absurd H (by simp)
      · replace c5 := Bool.eq_false_iff.mpr c5
        subst c5
        have H1 : (some true) = some r := by rw [if_neg (show ¬ (false = true) by decide)] at H; exact H
        clear H
        have H := H1
        clear H1
        obtain rfl := Option.some.inj H
        have p215 : 0 ≤ (0 : Int) := (by omega)
        have q215 : 0 < (l0.length : Int) := of_decide_eq_true (by first | (with_reducible assumption) | assumption)
        obtain ⟨ad215, e215, hx215_0⟩ := Kd.at_int HR0.out 0 p215 q215
        cases e215
        have qi215 : (0 < l0.length) = True := eq_true (by omega)
        (try rw [show ((0 : Int)).toNat = 0 from rfl] at hx215_0)
        (try rw [Addr.add_zero'] at hx215_0)
        replace p215 := eq_true p215
        replace q215 := eq_true q215
        go_enter Try.func140, Try.ntmps140
        go_wp2_with (first | (go_at_call 75; (with_reducible refine (impl_within.calls (rd l0 0) 1 100 false _ A4.out).mono ?_); rintro e w' ⟨rfl, ⟨nd, rfl⟩⟩))
        go_ret
        exact ⟨by first | rfl | (simp; done) | (simp [*]; done), by repeat (first | exact Drawn0.refl _ | apply Drawn0.step)⟩
    · rw [if_neg c3] at H
      exact absurd H (by simp)
  · rw [if_neg c2] at H
    have c2b0 : ((l0.length : Int) == 2) = false := beq_eq_false_iff_ne.mpr c2
    have c2b1 : ((l0.length : Int) != 2) = true := bne_iff_ne.mpr c2
    obtain rfl := Option.some.inj H
    go_enter Try.func140, Try.ntmps140
    go_wp2
    go_ret
    exact ⟨by first | rfl | (simp; done) | (simp [*]; done), by repeat (first | exact Drawn0.refl _ | apply Drawn0.step)⟩

/-! ### impl_arePieces: function 115 -/
def pieceOk (p : List Int) : Bool := decide (p.length = 2 ∧ (1 ≤ rd p 0 ∧ rd p 0 ≤ 100) ∧ (1 ≤ rd p 1 ∧ rd p 1 ≤ 100))
def impl_arePieces.f (l0 : List (List Int)) : Option (Bool) := some (decide (l0.length ≤ 12) && l0.all pieceOk)
theorem impl_arePieces.within (a b c : Int) : impl_within.f a b c = some (decide (b ≤ a ∧ a ≤ c)) := by
  unfold impl_within.f
  by_cases h : a ≥ b
  · rw [if_pos h]; simp [show b ≤ a from h]
  · rw [if_neg h]; simp [show ¬ b ≤ a from h]
theorem impl_arePieces.lit (p : List Int) : impl_arePieces_1.f p = some (!pieceOk p) := by
  unfold impl_arePieces_1.f pieceOk
  generalize rd p 0 = a
  generalize rd p 1 = b
  by_cases h3 : p.length = 2
  · simp only [show ((p.length : Int) = 2) = True from eq_true (by omega), show (0 < (p.length : Int)) = True from eq_true (by omega), show (1 < (p.length : Int)) = True from eq_true (by omega), h3, if_true, true_and, impl_arePieces.within, Option.bind_some]
    by_cases g0 : 1 ≤ a ∧ a ≤ 100
    · simp [g0]
    · simp [g0]
  · have : ¬ ((p.length : Int) = 2) := by omega
    simp [this, h3]
theorem impl_arePieces.calls (A0 : Option Addr) (c0 : Nat) (l0 : List (List Int)) (r : Bool) (w : World) (hr0 : Kd.C (Kd.slice 3 (Kd.int .i64)) w A0 l0.length l0) (hc0 : l0.length ≤ c0) (h : impl_arePieces.f l0 = some r) :
    Calls Try.prog 115 #[.slice A0 l0.length c0] w fun e w' => e = .returned (.bool r) ∧ Below w.heap.size w w' := by
  have HC : ∀ W : World, Below w.heap.size w W →
      Calls Try.prog 67 #[.slice A0 l0.length c0, .func (.func 140) #[] #[]] W fun e w' => e = .returned (.bool (!(l0.all pieceOk))) ∧ Below W.heap.size W w' := by
    intro W hb
    obtain ⟨vs, hl, hr, hv⟩ := Hof.reads_rows (Kd.C_below hr0 hb)
    have e3 : ((l0.map fun p => !pieceOk p).any id) = !(l0.all pieceOk) := by
      simp [List.any_map, Function.comp_def, List.not_all_eq_any_not]
    rw [← e3]
    have := Hof.ContainsFunc_row 140 #[] (enters_of Try.func140 (by kernel_rfl) rfl) A0 c0 vs (l0.map fun p => !pieceOk p) W (by simp [hl]) hr ?_
    · rwa [hl] at this
    · intro W1 j hj hb1
      rw [hl] at hj
      obtain ⟨A', c', e1, h1, h2⟩ := hv j hj
      have e2 : (l0.map fun p => !pieceOk p).getD j false = !pieceOk l0[j] := by simp [List.getD_eq_getElem?_getD, hj]
      rw [e1, e2]
      exact (impl_arePieces_1.calls A' c' l0[j] _ W1 (Kd.C_below h2 hb1) h1 (impl_arePieces.lit _)).mono fun e w' ⟨h1, h2⟩ => ⟨h1, h2.below⟩
  obtain rfl := Option.some.inj h
  clear h hr0
  generalize (l0.all pieceOk) = q at HC ⊢
  have HCA := Aside0.mk HC
  clear HC
  by_cases h2 : l0.length ≤ 12
  · have h2b : decide (l0.length ≤ 12) = true := decide_eq_true h2
    have h2c : decide ((l0.length : Int) ≤ 12) = true := decide_eq_true (by omega)
    go_enter Try.func115, Try.ntmps115
    go_wp2_with fail
    refine (HCA.out _ (Below.refl _ _)).mono ?_
    rintro e w1 ⟨rfl, hb⟩
    have HB := Aside0.mk hb
    clear hb
    go_wp2
    go_ret
    exact ⟨by simp [h2], HB.out⟩
  · have h2b : decide (l0.length ≤ 12) = false := decide_eq_false h2
    have h2c : decide ((l0.length : Int) ≤ 12) = false := decide_eq_false (by omega)
    go_enter Try.func115, Try.ntmps115
    go_wp2
    go_ret
    exact ⟨by simp [h2], Below.refl _ _⟩

/-! ### impl_PiecesFit: function 83 -/
def fitsIn (w : Int) (p : List Int) : Bool := decide (rd p 0 ≤ w)
def impl_PiecesFit.f (a0 : Int) (l1 : List (List Int)) : Option (Bool) := some (decide (1 ≤ a0 ∧ a0 ≤ 100) && ((decide (l1.length ≤ 12) && l1.all pieceOk) && l1.all (fitsIn a0)))
theorem impl_PiecesFit.within (a b c : Int) : impl_within.f a b c = some (decide (b ≤ a ∧ a ≤ c)) := by
  unfold impl_within.f
  by_cases h : a ≥ b
  · rw [if_pos h]; simp [show b ≤ a from h]
  · rw [if_neg h]; simp [show ¬ b ≤ a from h]
theorem impl_PiecesFit.lit (a0 : Int) (p : List Int) (A : Option Addr) (c : Nat) (B : Nat) (W : World) (hp : 0 < p.length) (hr : Kd.C (Kd.int .i64) W A p.length p) (hc : W.cell? ⟨B, 0, none⟩ = some (.int .i64 a0)) :
    Calls Try.prog 116 #[.slice A p.length c, .pointer (some ⟨B, 0, none⟩)] W fun e w' => e = .returned (.bool (!fitsIn a0 p)) ∧ Drawn0 W w' := by
  obtain ⟨ad, rfl, hx⟩ := Kd.at_int hr 0 (by omega) (by omega)
  clear hr
  replace hx : W.cell? ad = some (.int .i64 (rd p 0)) := by simpa [Addr.add] using hx
  have h1 : decide (0 < p.length) = true := decide_eq_true hp
  have h2 : decide ((0 : Int) < (p.length : Int)) = true := decide_eq_true (by omega)
  have hp2 : (0 : Int) < (p.length : Int) := by omega
  have e : (!fitsIn a0 p) = decide (a0 < rd p 0) := by
    unfold fitsIn
    by_cases g : rd p 0 ≤ a0
    · simp [g]
    · simp [g, show a0 < rd p 0 by omega]
  rw [e]
  generalize rd p 0 = x at hx ⊢
  generalize p.length = n at *
  go_enter Try.func116, Try.ntmps116
  go_wp2
  go_quiet (fail)
  go_wp2
  go_ret
  exact ⟨by simp, ⟨⟨_, rfl⟩⟩⟩
theorem impl_PiecesFit.calls (a0 : Int) (A1 : Option Addr) (c1 : Nat) (l1 : List (List Int)) (r : Bool) (w : World) (hr1 : Kd.C (Kd.slice 3 (Kd.int .i64)) w A1 l1.length l1) (hc1 : l1.length ≤ c1) (h : impl_PiecesFit.f a0 l1 = some r) :
    Calls Try.prog 83 #[.int .i64 a0, .slice A1 l1.length c1] w fun e w' => e = .returned (.bool r) ∧ Below w.heap.size w w' := by
  have HC : l1.all pieceOk = true → ∀ W : World, Below w.heap.size w W → W.cell? ⟨w.heap.size, 0, none⟩ = some (.int .i64 a0) → w.heap.size < W.heap.size →
      Calls Try.prog 67 #[.slice A1 l1.length c1, .func (.func 116) #[] #[.pointer (some ⟨w.heap.size, 0, none⟩)]] W fun e w' => e = .returned (.bool (!(l1.all (fitsIn a0)))) ∧ Below W.heap.size W w' := by
    intro hall W hb hcell hlt
    obtain ⟨vs, hl, hr, hv⟩ := Hof.reads_rows (Kd.C_below hr1 hb)
    have e3 : ((l1.map fun p => !fitsIn a0 p).any id) = !(l1.all (fitsIn a0)) := by
      simp [List.any_map, Function.comp_def, List.not_all_eq_any_not]
    rw [← e3]
    have := Hof.ContainsFunc_row 116 #[.pointer (some ⟨w.heap.size, 0, none⟩)] (enters_of Try.func116 (by kernel_rfl) rfl) A1 c1 vs (l1.map fun p => !fitsIn a0 p) W (by simp [hl]) hr ?_
    · rwa [hl] at this
    · intro W1 j hj hb1
      rw [hl] at hj
      obtain ⟨A', c', e1, h1, h2⟩ := hv j hj
      have e2 : (l1.map fun p => !fitsIn a0 p).getD j false = !fitsIn a0 l1[j] := by simp [List.getD_eq_getElem?_getD, hj]
      rw [e1, e2]
      have hp : pieceOk l1[j] = true := List.all_eq_true.mp hall _ (List.getElem_mem hj)
      have hp2 : (l1[j]).length = 2 := by
        unfold pieceOk at hp
        exact (of_decide_eq_true hp).1
      exact (impl_PiecesFit.lit a0 l1[j] A' c' w.heap.size W1 (by omega) (Kd.C_below h2 hb1) ((hb1.cell (p := ⟨w.heap.size, 0, none⟩) hlt).trans hcell)).mono fun e w' ⟨h1, h2⟩ => ⟨h1, h2.below⟩
  have HP : ∀ W : World, Below w.heap.size w W → Calls Try.prog 115 #[.slice A1 l1.length c1] W fun e w' => e = .returned (.bool (decide (l1.length ≤ 12) && l1.all pieceOk)) ∧ Below W.heap.size W w' :=
    fun W hb => impl_arePieces.calls A1 c1 l1 _ W (Kd.C_below hr1 hb) hc1 rfl
  obtain rfl := Option.some.inj h
  clear h hr1
  have h5 : (decide (l1.length ≤ 12) && l1.all pieceOk) = true → l1.all pieceOk = true := fun h => by simp only [Bool.and_eq_true] at h; exact h.2
  generalize l1.all (fitsIn a0) = q at HC ⊢
  generalize hb : (decide (l1.length ≤ 12) && l1.all pieceOk) = b at HP h5 ⊢
  generalize l1.all pieceOk = b2 at HC h5
  have HPA := Aside0.mk HP
  have HCA := Aside0.mk HC
  have H5 := Aside0.mk h5
  clear HC HP h5 hb
  by_cases h1 : 1 ≤ a0 ∧ a0 ≤ 100
  · have HW := Aside0.mk (show impl_within.f a0 1 100 = some true by rw [impl_PiecesFit.within]; simp [h1])
    cases b with
    | true =>
      go_enter Try.func83, Try.ntmps83
      go_wp2_with fail
      refine (impl_within.calls a0 1 100 true _ HW.out).mono ?_
      rintro e w1 ⟨rfl, ⟨⟨nd, rfl⟩⟩⟩
      go_wp2_with fail
      refine (HPA.out _ (pw_below_drewN (below_alloc (Below.refl _ _) _) _)).mono ?_
      rintro e w1 ⟨rfl, hb⟩
      have HB := Aside0.mk (below_step (pw_below_drewN (below_alloc (Below.refl _ _) _) _) hb)
      have hcell : w1.cell? ⟨w.heap.size, 0, none⟩ = some (.int .i64 a0) := (hb.cell (p := ⟨w.heap.size, 0, none⟩) (by simp)).trans (by simp)
      have hz := hb.size
      have hsz : w.heap.size < w1.heap.size := by simp at hz; omega
      clear hb hz
      go_wp2_with fail
      refine (HCA.out (H5.out (by first | rfl | trivial)) _ HB.out hcell hsz).mono ?_
      rintro e w2 ⟨rfl, hb⟩
      have HB2 := Aside0.mk (below_step HB.out hb)
      clear hb
      go_wp2
      go_ret
      exact ⟨by simp [h1], HB2.out⟩
    | false =>
      go_enter Try.func83, Try.ntmps83
      go_wp2_with fail
      refine (impl_within.calls a0 1 100 true _ HW.out).mono ?_
      rintro e w1 ⟨rfl, ⟨⟨nd, rfl⟩⟩⟩
      go_wp2_with fail
      refine (HPA.out _ (pw_below_drewN (below_alloc (Below.refl _ _) _) _)).mono ?_
      rintro e w1 ⟨rfl, hb⟩
      have HB := Aside0.mk (below_step (pw_below_drewN (below_alloc (Below.refl _ _) _) _) hb)
      clear hb
      go_wp2
      go_ret
      exact ⟨by simp, HB.out⟩
  · have HW := Aside0.mk (show impl_within.f a0 1 100 = some false by rw [impl_PiecesFit.within]; simp [h1])
    go_enter Try.func83, Try.ntmps83
    go_wp2_with fail
    refine (impl_within.calls a0 1 100 false _ HW.out).mono ?_
    rintro e w1 ⟨rfl, ⟨⟨nd, rfl⟩⟩⟩
    go_wp2
    go_ret
    exact ⟨by simp [h1], pw_below_drewN (below_alloc (Below.refl _ _) _) _⟩

end Go.Proofs.Ytkndopemfleedaa.XFnExactFirstShelf
