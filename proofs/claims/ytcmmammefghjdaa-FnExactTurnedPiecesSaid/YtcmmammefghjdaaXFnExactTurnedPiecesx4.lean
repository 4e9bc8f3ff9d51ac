/- What functions of the program compute, as plain Lean functions, and that Go's calls come to just that: written by wip/tools/xprint.py for the law FnExactTurnedPieces. -/
import Derived.Test.YtcmmammefghjdaaXFnExactTurnedPiecesx0
import Derived.Test.YtcmmammefghjdaaXFnExactTurnedPiecesx1
namespace Go.Proofs.Ytcmmammefghjdaa.XFnExactTurnedPieces
open Go.RowKit Go.Proofs.YtcmmammefghjdaaW.PrintWords Go.Proofs.YtcmmammefghjdaaW.PrintLast Go.Proofs.YtcmmammefghjdaaW.PrintMore
attribute [local go_sem] max2_int min2_int max_two min_two max_three min_three max_four min_four   -- for this text's walks alone
set_option linter.unusedVariables false
set_option linter.unusedSimpArgs false

/-! ### impl_within: function 60 -/
def impl_within.f (a0 : Int) (a1 : Int) (a2 : Int) : Option (Bool) := if a0 ≥ a1 then (some (decide (a0 ≤ a2))) else (some false)
set_option maxHeartbeats 8000000 in
set_option maxRecDepth 100000 in
theorem impl_within.calls (a0 : Int) (a1 : Int) (a2 : Int) (r : Bool) (w : World) (h : impl_within.f a0 a1 a2 = some r) :
    Calls Try.prog 60 #[.int .i64 a0, .int .i64 a1, .int .i64 a2] w fun e w' => e = .returned (.bool r) ∧ Drawn0 w w' := by
  have H : (if a0 ≥ a1 then (some (decide (a0 ≤ a2))) else (some false)) = some r := h
  clear h
  by_cases c4 : a0 ≥ a1
  · rw [if_pos c4] at H
    have c4b0 : decide (a1 ≤ a0) = true := decide_eq_true c4
    clear c4
    obtain rfl := Option.some.inj H
    go_enter Try.func60, Try.ntmps60
    go_wp2
    go_ret
    exact ⟨by first | rfl | (simp; done) | (simp [*]; done), by repeat (first | exact Drawn0.refl _ | apply Drawn0.step)⟩
  · rw [if_neg c4] at H
    have c4b0 : decide (a1 ≤ a0) = false := decide_eq_false c4
    clear c4
    obtain rfl := Option.some.inj H
    go_enter Try.func60, Try.ntmps60
    go_wp2
    go_ret
    exact ⟨by first | rfl | (simp; done) | (simp [*]; done), by repeat (first | exact Drawn0.refl _ | apply Drawn0.step)⟩

-- NOT PRINTED: function 92 (slices_IndexFunc_int_int)

-- NOT PRINTED: function 82 (slices_ContainsFunc_int_int)

/-! ### impl_arePieces_1: function 91 -/
def impl_arePieces_1.f (l0 : List Int) : Option (Bool) := if (l0.length : Int) = 2 then (if 0 < (l0.length : Int) then ((impl_within.f (rd l0 0) 1 100).bind fun t161 => (if t161 = true then (if 1 < (l0.length : Int) then ((impl_within.f (rd l0 1) 1 100).bind fun t163 => (some (!t163))) else (none)) else (some true))) else (none)) else (some true)
set_option maxHeartbeats 8000000 in
set_option maxRecDepth 100000 in
theorem impl_arePieces_1.calls (A0 : Option Addr) (c0 : Nat) (l0 : List Int) (r : Bool) (w : World) (hr0 : Kd.C (Kd.int .i64) w A0 l0.length l0) (hc0 : l0.length ≤ c0) (h : impl_arePieces_1.f l0 = some r) :
    Calls Try.prog 91 #[.slice A0 l0.length c0] w fun e w' => e = .returned (.bool r) ∧ Drawn0 w w' := by
  have HR0 := Aside0.mk hr0
  have HC0 := Aside0.mk hc0
  clear hr0 hc0
  have H : (if (l0.length : Int) = 2 then (if 0 < (l0.length : Int) then ((impl_within.f (rd l0 0) 1 100).bind fun t161 => (if t161 = true then (if 1 < (l0.length : Int) then ((impl_within.f (rd l0 1) 1 100).bind fun t163 => (some (!t163))) else (none)) else (some true))) else (none)) else (some true)) = some r := h
  clear h
  by_cases c2 : (l0.length : Int) = 2
  · rw [if_pos c2] at H
    have c2b0 : ((l0.length : Int) == 2) = true := beq_iff_eq.mpr c2
    have c2b1 : ((l0.length : Int) != 2) = false := bne_eq_false_iff_eq.mpr c2
    clear c2
    by_cases c3 : 0 < (l0.length : Int)
    · rw [if_pos c3] at H
      have c3b0 : decide (0 < (l0.length : Int)) = true := decide_eq_true c3
      have c3b1 : decide (0 < l0.length) = true := decide_eq_true (by omega)
      clear c3
      replace H := Option.bind_eq_some_iff.mp H
      obtain ⟨t161, A40, H⟩ := H
      replace H : (if t161 = true then (if 1 < (l0.length : Int) then ((impl_within.f (rd l0 1) 1 100).bind fun t163 => (some (!t163))) else (none)) else (some true)) = some r := H
      have A4 := Aside0.mk A40
      clear A40
      by_cases c5 : t161 = true
      · subst c5
        have H1 : (if 1 < (l0.length : Int) then ((impl_within.f (rd l0 1) 1 100).bind fun t163 => (some (!t163))) else (none)) = some r := by rw [if_pos rfl] at H; exact H
        clear H
        have H := H1
        clear H1
        by_cases c6 : 1 < (l0.length : Int)
        · rw [if_pos c6] at H
          have c6b0 : decide (1 < (l0.length : Int)) = true := decide_eq_true c6
          have c6b1 : decide (1 < l0.length) = true := decide_eq_true (by omega)
          clear c6
          replace H := Option.bind_eq_some_iff.mp H
          obtain ⟨t163, A70, H⟩ := H
          replace H : (some (!t163)) = some r := H
          have A7 := Aside0.mk A70
          clear A70
          obtain rfl := Option.some.inj H
          have p160 : 0 ≤ (0 : Int) := (by omega)
          have q160 : 0 < (l0.length : Int) := of_decide_eq_true (by first | (with_reducible assumption) | assumption)
          obtain ⟨ad160, e160, hx160_0⟩ := Kd.at_int HR0.out 0 p160 q160
          cases e160
          have qi160 : (0 < l0.length) = True := eq_true (by omega)
          (try rw [show ((0 : Int)).toNat = 0 from rfl] at hx160_0)
          (try rw [Addr.add_zero'] at hx160_0)
          replace p160 := eq_true p160
          replace q160 := eq_true q160
          go_enter Try.func91, Try.ntmps91
          go_wp2_with (first | (go_at_call 60; (with_reducible refine (impl_within.calls (rd l0 0) 1 100 true _ A4.out).mono ?_); rintro e w' ⟨rfl, ⟨nd, rfl⟩⟩; have p162 : 0 ≤ (1 : Int) := (by omega); have q162 : 1 < (l0.length : Int) := of_decide_eq_true (by first | (with_reducible assumption) | assumption); obtain ⟨ad162, e162, hx162_0⟩ := Kd.at_int HR0.out 1 p162 q162; obtain rfl : ad160 = ad162 := (by injection e162); (try simp only [show (1 : Int).toNat = 1 from rfl, Nat.reduceMul, Nat.reduceEqDiff, Go.Addr.add, ↓reduceIte] at hx162_0); have qi162 : (1 < l0.length) = True := eq_true (by omega); (try rw [show ((1 : Int)).toNat = 1 from rfl] at hx162_0); replace p162 := eq_true p162; replace q162 := eq_true q162) | (go_at_call 60; (with_reducible refine (impl_within.calls (rd l0 1) 1 100 t163 _ A7.out).mono ?_); rintro e w' ⟨rfl, ⟨nd, rfl⟩⟩))
          go_ret
          exact ⟨by first | rfl | (simp; done) | (simp [*]; done), by repeat (first | exact Drawn0.refl _ | apply Drawn0.step)⟩
        · rw [if_neg c6] at H
          exact absurd H (by simp)
      · replace c5 := Bool.eq_false_iff.mpr c5
        subst c5
        have H1 : (some true) = some r := by rw [if_neg (show ¬ (false = true) by decide)] at H; exact H
        clear H
        have H := H1
        clear H1
        obtain rfl := Option.some.inj H
        have p160 : 0 ≤ (0 : Int) := (by omega)
        have q160 : 0 < (l0.length : Int) := of_decide_eq_true (by first | (with_reducible assumption) | assumption)
        obtain ⟨ad160, e160, hx160_0⟩ := Kd.at_int HR0.out 0 p160 q160
        cases e160
        have qi160 : (0 < l0.length) = True := eq_true (by omega)
        (try rw [show ((0 : Int)).toNat = 0 from rfl] at hx160_0)
        (try rw [Addr.add_zero'] at hx160_0)
        replace p160 := eq_true p160
        replace q160 := eq_true q160
        go_enter Try.func91, Try.ntmps91
        go_wp2_with (first | (go_at_call 60; (with_reducible refine (impl_within.calls (rd l0 0) 1 100 false _ A4.out).mono ?_); rintro e w' ⟨rfl, ⟨nd, rfl⟩⟩))
        go_ret
        exact ⟨by first | rfl | (simp; done) | (simp [*]; done), by repeat (first | exact Drawn0.refl _ | apply Drawn0.step)⟩
    · rw [if_neg c3] at H
      exact absurd H (by simp)
  · rw [if_neg c2] at H
    have c2b0 : ((l0.length : Int) == 2) = false := beq_eq_false_iff_ne.mpr c2
    have c2b1 : ((l0.length : Int) != 2) = true := bne_iff_ne.mpr c2
    obtain rfl := Option.some.inj H
    go_enter Try.func91, Try.ntmps91
    go_wp2
    go_ret
    exact ⟨by first | rfl | (simp; done) | (simp [*]; done), by repeat (first | exact Drawn0.refl _ | apply Drawn0.step)⟩

/-! ### impl_arePieces: function 81 -/
def pieceOk (p : List Int) : Bool := decide (p.length = 2 ∧ (1 ≤ rd p 0 ∧ rd p 0 ≤ 100) ∧ (1 ≤ rd p 1 ∧ rd p 1 ≤ 100))
def impl_arePieces.f (l0 : List (List Int)) : Option (Bool) := some (decide (l0.length ≤ 12) && l0.all pieceOk)
theorem impl_arePieces.within (a b c : Int) : impl_within.f a b c = some (decide (b ≤ a ∧ a ≤ c)) := by
  unfold impl_within.f
  by_cases h : a ≥ b
  · rw [if_pos h]; simp [show b ≤ a from h]
  · rw [if_neg h]; simp [show ¬ b ≤ a from h]
theorem impl_arePieces.lit (p : List Int) : impl_arePieces_1.f p = some (!pieceOk p) := by
  unfold impl_arePieces_1.f pieceOk
  generalize rd p 0 = a
  generalize rd p 1 = b
  by_cases h3 : p.length = 2
  · simp only [show ((p.length : Int) = 2) = True from eq_true (by omega), show (0 < (p.length : Int)) = True from eq_true (by omega), show (1 < (p.length : Int)) = True from eq_true (by omega), h3, if_true, true_and, impl_arePieces.within, Option.bind_some]
    by_cases g0 : 1 ≤ a ∧ a ≤ 100
    · simp [g0]
    · simp [g0]
  · have : ¬ ((p.length : Int) = 2) := by omega
    simp [this, h3]
theorem impl_arePieces.calls (A0 : Option Addr) (c0 : Nat) (l0 : List (List Int)) (r : Bool) (w : World) (hr0 : Kd.C (Kd.slice 3 (Kd.int .i64)) w A0 l0.length l0) (hc0 : l0.length ≤ c0) (h : impl_arePieces.f l0 = some r) :
    Calls Try.prog 81 #[.slice A0 l0.length c0] w fun e w' => e = .returned (.bool r) ∧ Below w.heap.size w w' := by
  have HC : ∀ W : World, Below w.heap.size w W →
      Calls Try.prog 82 #[.slice A0 l0.length c0, .func (.func 91) #[] #[]] W fun e w' => e = .returned (.bool (!(l0.all pieceOk))) ∧ Below W.heap.size W w' := by
    intro W hb
    obtain ⟨vs, hl, hr, hv⟩ := Hof.reads_rows (Kd.C_below hr0 hb)
    have e3 : ((l0.map fun p => !pieceOk p).any id) = !(l0.all pieceOk) := by
      simp [List.any_map, Function.comp_def, List.not_all_eq_any_not]
    rw [← e3]
    have := Hof.ContainsFunc_row 91 #[] (enters_of Try.func91 (by kernel_rfl) rfl) A0 c0 vs (l0.map fun p => !pieceOk p) W (by simp [hl]) hr ?_
    · rwa [hl] at this
    · intro W1 j hj hb1
      rw [hl] at hj
      obtain ⟨A', c', e1, h1, h2⟩ := hv j hj
      have e2 : (l0.map fun p => !pieceOk p).getD j false = !pieceOk l0[j] := by simp [List.getD_eq_getElem?_getD, hj]
      rw [e1, e2]
      exact (impl_arePieces_1.calls A' c' l0[j] _ W1 (Kd.C_below h2 hb1) h1 (impl_arePieces.lit _)).mono fun e w' ⟨h1, h2⟩ => ⟨h1, h2.below⟩
  obtain rfl := Option.some.inj h
  clear h hr0
  generalize (l0.all pieceOk) = q at HC ⊢
  have HCA := Aside0.mk HC
  clear HC
  by_cases h2 : l0.length ≤ 12
  · have h2b : decide (l0.length ≤ 12) = true := decide_eq_true h2
    have h2c : decide ((l0.length : Int) ≤ 12) = true := decide_eq_true (by omega)
    go_enter Try.func81, Try.ntmps81
    go_wp2_with fail
    refine (HCA.out _ (Below.refl _ _)).mono ?_
    rintro e w1 ⟨rfl, hb⟩
    have HB := Aside0.mk hb
    clear hb
    go_wp2
    go_ret
    exact ⟨by simp [h2], HB.out⟩
  · have h2b : decide (l0.length ≤ 12) = false := decide_eq_false h2
    have h2c : decide ((l0.length : Int) ≤ 12) = false := decide_eq_false (by omega)
    go_enter Try.func81, Try.ntmps81
    go_wp2
    go_ret
    exact ⟨by simp [h2], Below.refl _ _⟩

/-! ### impl_PiecesFit: function 59 -/
def fitsIn (w : Int) (p : List Int) : Bool := decide (rd p 0 ≤ w)
def impl_PiecesFit.f (a0 : Int) (l1 : List (List Int)) : Option (Bool) := some (decide (1 ≤ a0 ∧ a0 ≤ 100) && ((decide (l1.length ≤ 12) && l1.all pieceOk) && l1.all (fitsIn a0)))
theorem impl_PiecesFit.within (a b c : Int) : impl_within.f a b c = some (decide (b ≤ a ∧ a ≤ c)) := by
  unfold impl_within.f
  by_cases h : a ≥ b
  · rw [if_pos h]; simp [show b ≤ a from h]
  · rw [if_neg h]; simp [show ¬ b ≤ a from h]
theorem impl_PiecesFit.lit (a0 : Int) (p : List Int) (A : Option Addr) (c : Nat) (B : Nat) (W : World) (hp : 0 < p.length) (hr : Kd.C (Kd.int .i64) W A p.length p) (hc : W.cell? ⟨B, 0, none⟩ = some (.int .i64 a0)) :
    Calls Try.prog 83 #[.slice A p.length c, .pointer (some ⟨B, 0, none⟩)] W fun e w' => e = .returned (.bool (!fitsIn a0 p)) ∧ Drawn0 W w' := by
  obtain ⟨ad, rfl, hx⟩ := Kd.at_int hr 0 (by omega) (by omega)
  clear hr
  replace hx : W.cell? ad = some (.int .i64 (rd p 0)) := by simpa [Addr.add] using hx
  have h1 : decide (0 < p.length) = true := decide_eq_true hp
  have h2 : decide ((0 : Int) < (p.length : Int)) = true := decide_eq_true (by omega)
  have hp2 : (0 : Int) < (p.length : Int) := by omega
  have e : (!fitsIn a0 p) = decide (a0 < rd p 0) := by
    unfold fitsIn
    by_cases g : rd p 0 ≤ a0
    · simp [g]
    · simp [g, show a0 < rd p 0 by omega]
  rw [e]
  generalize rd p 0 = x at hx ⊢
  generalize p.length = n at *
  go_enter Try.func83, Try.ntmps83
  go_wp2
  go_quiet (fail)
  go_wp2
  go_ret
  exact ⟨by simp, ⟨⟨_, rfl⟩⟩⟩
theorem impl_PiecesFit.calls (a0 : Int) (A1 : Option Addr) (c1 : Nat) (l1 : List (List Int)) (r : Bool) (w : World) (hr1 : Kd.C (Kd.slice 3 (Kd.int .i64)) w A1 l1.length l1) (hc1 : l1.length ≤ c1) (h : impl_PiecesFit.f a0 l1 = some r) :
    Calls Try.prog 59 #[.int .i64 a0, .slice A1 l1.length c1] w fun e w' => e = .returned (.bool r) ∧ Below w.heap.size w w' := by
  have HC : l1.all pieceOk = true → ∀ W : World, Below w.heap.size w W → W.cell? ⟨w.heap.size, 0, none⟩ = some (.int .i64 a0) → w.heap.size < W.heap.size →
      Calls Try.prog 82 #[.slice A1 l1.length c1, .func (.func 83) #[] #[.pointer (some ⟨w.heap.size, 0, none⟩)]] W fun e w' => e = .returned (.bool (!(l1.all (fitsIn a0)))) ∧ Below W.heap.size W w' := by
    intro hall W hb hcell hlt
    obtain ⟨vs, hl, hr, hv⟩ := Hof.reads_rows (Kd.C_below hr1 hb)
    have e3 : ((l1.map fun p => !fitsIn a0 p).any id) = !(l1.all (fitsIn a0)) := by
      simp [List.any_map, Function.comp_def, List.not_all_eq_any_not]
    rw [← e3]
    have := Hof.ContainsFunc_row 83 #[.pointer (some ⟨w.heap.size, 0, none⟩)] (enters_of Try.func83 (by kernel_rfl) rfl) A1 c1 vs (l1.map fun p => !fitsIn a0 p) W (by simp [hl]) hr ?_
    · rwa [hl] at this
    · intro W1 j hj hb1
      rw [hl] at hj
      obtain ⟨A', c', e1, h1, h2⟩ := hv j hj
      have e2 : (l1.map fun p => !fitsIn a0 p).getD j false = !fitsIn a0 l1[j] := by simp [List.getD_eq_getElem?_getD, hj]
      rw [e1, e2]
      have hp : pieceOk l1[j] = true := List.all_eq_true.mp hall _ (List.getElem_mem hj)
      have hp2 : (l1[j]).length = 2 := by
        unfold pieceOk at hp
        exact (of_decide_eq_true hp).1
      exact (impl_PiecesFit.lit a0 l1[j] A' c' w.heap.size W1 (by omega) (Kd.C_below h2 hb1) ((hb1.cell (p := ⟨w.heap.size, 0, none⟩) hlt).trans hcell)).mono fun e w' ⟨h1, h2⟩ => ⟨h1, h2.below⟩
  have HP : ∀ W : World, Below w.heap.size w W → Calls Try.prog 81 #[.slice A1 l1.length c1] W fun e w' => e = .returned (.bool (decide (l1.length ≤ 12) && l1.all pieceOk)) ∧ Below W.heap.size W w' :=
    fun W hb => impl_arePieces.calls A1 c1 l1 _ W (Kd.C_below hr1 hb) hc1 rfl
  obtain rfl := Option.some.inj h
  clear h hr1
  have h5 : (decide (l1.length ≤ 12) && l1.all pieceOk) = true → l1.all pieceOk = true := fun h => by simp only [Bool.and_eq_true] at h; exact h.2
  generalize l1.all (fitsIn a0) = q at HC ⊢
  generalize hb : (decide (l1.length ≤ 12) && l1.all pieceOk) = b at HP h5 ⊢
  generalize l1.all pieceOk = b2 at HC h5
  have HPA := Aside0.mk HP
  have HCA := Aside0.mk HC
  have H5 := Aside0.mk h5
  clear HC HP h5 hb
  by_cases h1 : 1 ≤ a0 ∧ a0 ≤ 100
  · have HW := Aside0.mk (show impl_within.f a0 1 100 = some true by rw [impl_PiecesFit.within]; simp [h1])
    cases b with
    | true =>
      go_enter Try.func59, Try.ntmps59
      go_wp2_with fail
      refine (impl_within.calls a0 1 100 true _ HW.out).mono ?_
      rintro e w1 ⟨rfl, ⟨⟨nd, rfl⟩⟩⟩
      go_wp2_with fail
      refine (HPA.out _ (pw_below_drewN (below_alloc (Below.refl _ _) _) _)).mono ?_
      rintro e w1 ⟨rfl, hb⟩
      have HB := Aside0.mk (below_step (pw_below_drewN (below_alloc (Below.refl _ _) _) _) hb)
      have hcell : w1.cell? ⟨w.heap.size, 0, none⟩ = some (.int .i64 a0) := (hb.cell (p := ⟨w.heap.size, 0, none⟩) (by simp)).trans (by simp)
      have hz := hb.size
      have hsz : w.heap.size < w1.heap.size := by simp at hz; omega
      clear hb hz
      go_wp2_with fail
      refine (HCA.out (H5.out (by first | rfl | trivial)) _ HB.out hcell hsz).mono ?_
      rintro e w2 ⟨rfl, hb⟩
      have HB2 := Aside0.mk (below_step HB.out hb)
      clear hb
      go_wp2
      go_ret
      exact ⟨by simp [h1], HB2.out⟩
    | false =>
      go_enter Try.func59, Try.ntmps59
      go_wp2_with fail
      refine (impl_within.calls a0 1 100 true _ HW.out).mono ?_
      rintro e w1 ⟨rfl, ⟨⟨nd, rfl⟩⟩⟩
      go_wp2_with fail
      refine (HPA.out _ (pw_below_drewN (below_alloc (Below.refl _ _) _) _)).mono ?_
      rintro e w1 ⟨rfl, hb⟩
      have HB := Aside0.mk (below_step (pw_below_drewN (below_alloc (Below.refl _ _) _) _) hb)
      clear hb
      go_wp2
      go_ret
      exact ⟨by simp, HB.out⟩
  · have HW := Aside0.mk (show impl_within.f a0 1 100 = some false by rw [impl_PiecesFit.within]; simp [h1])
    go_enter Try.func59, Try.ntmps59
    go_wp2_with fail
    refine (impl_within.calls a0 1 100 false _ HW.out).mono ?_
    rintro e w1 ⟨rfl, ⟨⟨nd, rfl⟩⟩⟩
    go_wp2
    go_ret
    exact ⟨by simp [h1], pw_below_drewN (below_alloc (Below.refl _ _) _) _⟩

/-! ### impl_copyLists: function 78 -/
def impl_copyLists.l0 : Nat → List (List Int) → List (List Int) → Int → Int → Option ((List (List Int)))
  | 0, _, _, _, _ => none
  | k + 1, x3, x7, x8, x9 => if x9 < x8 then (if 0 ≤ x9 then (if x9 < (x7.length : Int) then ((some (([] : List Int) : List Int)).bind fun y168 => (if y168.length + (rd_L1 x7 x9).length < 17592186044416 then (if x3.length < 5864062014805 then (impl_copyLists.l0 k (x3 ++ [(y168 ++ (rd_L1 x7 x9))]) x7 x8 (wrap64 (x9 + 1))) else (none)) else (none))) else (none)) else (none)) else (some x3)
def impl_copyLists.f (k : Nat) (l0 : List (List Int)) : Option ((List (List Int))) := impl_copyLists.l0 k (([] : List (List Int))) l0 (l0.length : Int) 0
theorem impl_copyLists.mono_l : ∀ k, (∀ y0 y1 y2 y3, LeO (impl_copyLists.l0 k y0 y1 y2 y3) (impl_copyLists.l0 (k + 1) y0 y1 y2 y3))
  | 0 => fun _ _ _ _ r h => by simp [impl_copyLists.l0] at h
  | k + 1 => by
    have ih0 := impl_copyLists.mono_l k
    · intro y0 y1 y2 y3
      unfold impl_copyLists.l0
      repeat' first
      | (with_reducible exact ih0 _ _ _ _)
      | (with_reducible exact LeO.refl _)
      | (with_reducible exact LeO.none _)
      | (with_reducible refine LeO.ite ?_ ?_)
      | (with_reducible refine LeO.bind ?_ (fun _ => ?_))
      | exact ih0 _ _ _ _
      | exact LeO.none _
      | refine LeO.ite ?_ ?_
      | refine LeO.bind ?_ (fun _ => ?_)
theorem impl_copyLists.mono : ∀ a0 k, LeO (impl_copyLists.f k a0) (impl_copyLists.f (k + 1) a0) := by
  intro a0 k
  have ih0 := impl_copyLists.mono_l k
  unfold impl_copyLists.f
  repeat' first
      | (with_reducible exact ih0 _ _ _ _)
      | (with_reducible exact LeO.refl _)
      | (with_reducible exact LeO.none _)
      | (with_reducible refine LeO.ite ?_ ?_)
      | (with_reducible refine LeO.bind ?_ (fun _ => ?_))
      | exact ih0 _ _ _ _
      | exact LeO.none _
      | refine LeO.ite ?_ ?_
      | refine LeO.bind ?_ (fun _ => ?_)
set_option maxHeartbeats 8000000 in
set_option maxRecDepth 100000 in
theorem impl_copyLists.calls (k : Nat) (A0 : Option Addr) (c0 : Nat) (l0 : List (List Int)) (r : List (List Int)) (w : World) (hr0 : Kd.C (Kd.slice 3 (Kd.int .i64)) w A0 l0.length l0) (hc0 : l0.length ≤ c0) (h : impl_copyLists.f k l0 = some r) :
    Calls Try.prog 78 #[.slice A0 l0.length c0] w fun e w' => ∃ v0_ : Value, e = .returned (v0_) ∧ Kd.S (Kd.slice 3 (Kd.int .i64)) 22 w' w.heap.size (fun _ => True) v0_ r ∧ Below w.heap.size w w' := by
  have HR0 := Aside0.mk hr0
  have HC0 := Aside0.mk hc0
  clear hr0 hc0
  have HB := Aside0.mk (Below.refl w.heap.size w)
  have H : (impl_copyLists.l0 k (([] : List (List Int))) l0 (l0.length : Int) 0) = some r := h
  clear h
  obtain ⟨y164, hy164⟩ : ∃ y_ : List (List Int), y_ = (([] : List (List Int))) := ⟨_, rfl⟩
  replace H : (impl_copyLists.l0 k y164 l0 (l0.length : Int) 0) = some r := by first | (rw [hy164]; with_reducible exact H) | (have H2_ := (Option.bind_some _ _).symm.trans H; rw [hy164]; with_reducible exact H2_) | (have H2_ := (Option.bind_some _ _).symm.trans H; with_reducible exact H2_) | with_reducible exact H | (rw [hy164]; exact H) | exact H
  have Ny164 := Aside0.mk hy164
  clear hy164
  have H' := Aside0.mk H
  clear H
  go_enter Try.func78, Try.ntmps78
  go_wp2_with (first | ((with_reducible refine gate_dst (N := 6) rfl ?_); refine Kd.S_lit (Kd.slice 3 (Kd.int .i64)) _ 22 ?hg (N := 6) ?hd (xs := ([] : List (List Int))) (inner := []) (ok := fun _ => True) (okp := fun _ => True) ?hr ?hp (fun _ hk => hk) trivial (Below.refl _ _) (Nat.le_refl _) (by simp) ?_; (case hd => rfl); (case hg => rfl); (case hr => first | (go_simp; done) | (go_simp; rfl)); (case hp => exact (Reps.none _ _)); intro v165 w2 ho3 hb hg_ hnew_; clear hg_ hnew_; (first | rw [← Ny164.out] at ho3 | (simp only [Int.reduceToNat] at ho3; rw [← Ny164.out] at ho3)); have n0_ := Aside0.mk (Kd.S_lower ho3 (below_size (by repeat (first | (with_reducible first | exact HB.out | apply below_alloc | apply pw_below_drewN | apply below_drew1) | exact HB.out)))); have n1_ := Aside0.mk (below_step (by repeat (first | (with_reducible first | exact HB.out | apply below_alloc | apply pw_below_drewN | apply below_drew1) | exact HB.out)) hb); clear HB; have HO166 := n0_; have HB := n1_; clear n0_ n1_; clear hb ho3))
  go_loopg [3, 9] k (fun kq v3 v9 w' => ∃ (x3_1 : List (List Int)) (x9_1 : Int), v9 = .int .i64 x9_1 ∧ Aside0 (impl_copyLists.l0 kq x3_1 l0 (l0.length : Int) x9_1 = some r) ∧ Aside0 (kq ≤ k) ∧ Aside0 (Kd.S (Kd.slice 3 (Kd.int .i64)) 22 w' w.heap.size (fun _ => True) v3 x3_1) ∧ Aside0 (Below w.heap.size w w'))
  case atStart => exact ⟨(y164), (0), (by first | rfl | (simp; done) | (simp [*]; done)), H', ⟨Nat.le_refl _⟩, ⟨by (with_reducible repeat (first | apply Kd.S_alloc | apply Kd.S_drewN | apply Kd.S_drew)); exact HO166.out⟩, ⟨by repeat (first | (with_reducible first | exact HB.out | apply below_alloc | apply pw_below_drewN | apply below_drew1) | exact HB.out)⟩⟩
  case round =>
    clear H'
    try clear p2
    obtain ⟨x3_1, x9_1, rfl, HA, HK1, HO_3, HB⟩ := hrel
    cases gk with
    | zero => exact absurd HA.out (by simp [impl_copyLists.l0])
    | succ k1 =>
      have H := HA.out
      clear HA
      simp only [impl_copyLists.l0] at H
      by_cases c4 : x9_1 < (l0.length : Int)
      · rw [if_pos c4] at H
        have c4b0 : decide (x9_1 < (l0.length : Int)) = true := decide_eq_true c4
        clear c4
        by_cases c5 : 0 ≤ x9_1
        · rw [if_pos c5] at H
          have c5b0 : decide (0 ≤ x9_1) = true := decide_eq_true c5
          clear c5
          by_cases c6 : x9_1 < (l0.length : Int)
          · rw [if_pos c6] at H
            have c6b0 : decide (x9_1 < (l0.length : Int)) = true := decide_eq_true c6
            clear c6
            obtain ⟨y168, hy168⟩ : ∃ y_ : List Int, y_ = (([] : List Int)) := ⟨_, rfl⟩
            replace H : (if y168.length + (rd_L1 l0 x9_1).length < 17592186044416 then (if x3_1.length < 5864062014805 then (impl_copyLists.l0 k1 (x3_1 ++ [(y168 ++ (rd_L1 l0 x9_1))]) l0 (l0.length : Int) (wrap64 (x9_1 + 1))) else (none)) else (none)) = some r := by first | (rw [hy168]; with_reducible exact H) | (have H2_ := (Option.bind_some _ _).symm.trans H; rw [hy168]; with_reducible exact H2_) | (have H2_ := (Option.bind_some _ _).symm.trans H; with_reducible exact H2_) | with_reducible exact H | (rw [hy168]; exact H) | exact H
            have Ny168 := Aside0.mk hy168
            clear hy168
            by_cases c7 : y168.length + (rd_L1 l0 x9_1).length < 17592186044416
            · rw [if_pos c7] at H
              have LMc7 := Aside0.mk c7
              clear c7
              obtain ⟨y171, hy171⟩ : ∃ y_ : List Int, y_ = (y168 ++ (rd_L1 l0 x9_1)) := ⟨_, rfl⟩
              replace H : (if x3_1.length < 5864062014805 then (impl_copyLists.l0 k1 (x3_1 ++ [y171]) l0 (l0.length : Int) (wrap64 (x9_1 + 1))) else (none)) = some r := by first | (rw [hy171]; with_reducible exact H) | (have H2_ := (Option.bind_some _ _).symm.trans H; rw [hy171]; with_reducible exact H2_) | (have H2_ := (Option.bind_some _ _).symm.trans H; with_reducible exact H2_) | with_reducible exact H | (rw [hy171]; exact H) | exact H
              have Ny171 := Aside0.mk hy171
              clear hy171
              by_cases c8 : x3_1.length < 5864062014805
              · rw [if_pos c8] at H
                have LMc8 := Aside0.mk c8
                clear c8
                obtain ⟨y174, hy174⟩ : ∃ y_ : List (List Int), y_ = (x3_1 ++ [y171]) := ⟨_, rfl⟩
                replace H : (impl_copyLists.l0 k1 y174 l0 (l0.length : Int) (wrap64 (x9_1 + 1))) = some r := by first | (rw [hy174]; with_reducible exact H) | (have H2_ := (Option.bind_some _ _).symm.trans H; rw [hy174]; with_reducible exact H2_) | (have H2_ := (Option.bind_some _ _).symm.trans H; with_reducible exact H2_) | with_reducible exact H | (rw [hy174]; exact H) | exact H
                have Ny174 := Aside0.mk hy174
                clear hy174
                have H' := Aside0.mk H
                clear H
                have p167 : 0 ≤ (x9_1 : Int) := of_decide_eq_true (by first | (with_reducible assumption) | assumption)
                have q167 : x9_1 < (l0.length : Int) := of_decide_eq_true (by first | (with_reducible assumption) | assumption)
                obtain ⟨ad167, A167_0, c167_0, e167, hx167_0, hl167_0, hi167_0⟩ := at_L1 HR0.out x9_1 p167 q167
                cases e167
                (try replace hx167_0 := (HB.out.cell (World.block_lt_of_cell? w _ hx167_0)).trans hx167_0)
                have HR167_0 := Aside0.mk hi167_0
                have HC167_0 := Aside0.mk hl167_0
                clear hi167_0 hl167_0
                replace p167 := eq_true p167
                replace q167 := eq_true q167
                go_wp2_with (first | ((with_reducible refine gate_dst (N := 14) rfl ?_); refine Kd.R_lit (Kd.int .i64) _ 3 ?hg (N := 14) ?hd (xs := ([] : List Int)) (inner := []) (ok := fun _ => True) (okp := fun _ => True) ?hr ?hp (fun _ hk => hk) trivial (Below.refl _ _) (Nat.le_refl _) (by simp) ?_; (case hd => rfl); (case hg => rfl); (case hr => first | (go_simp; done) | (go_simp; rfl)); (case hp => exact (Reps.none _ _)); intro v169 w9 ho10 hb hg_ hnew_; clear hg_ hnew_; (first | rw [← Ny168.out] at ho10 | (simp only [Int.reduceToNat] at ho10; rw [← Ny168.out] at ho10)); have n0_ := Aside0.mk (Kd.S_elder' (by (with_reducible repeat (first | apply Kd.S_alloc | apply Kd.S_drewN | apply Kd.S_drew)); exact HO_3.out) (Kd.R_base ho10) hb); have n1_ := Aside0.mk (Kd.R_lower ho10 (below_size (by repeat (first | (with_reducible first | exact HB.out | apply below_alloc | apply pw_below_drewN | apply below_drew1) | exact HB.out)))); have n2_ := Aside0.mk (below_step (by repeat (first | (with_reducible first | exact HB.out | apply below_alloc | apply pw_below_drewN | apply below_drew1) | exact HB.out)) hb); clear HO_3; clear HB; have HO_3 := n0_; have HO170 := n1_; have HB := n2_; clear n0_ n1_ n2_; clear hb ho10) | ((with_reducible refine gate_builtin (b := .append) (xs := #[.tmp 14, .tmp 15]) rfl ?_); at_builtin; refine Kd.R_append_rows (Kd.int .i64) (w0 := w) w.heap.size rfl (.tmp 14) (.tmp 15) 22 3 (.int .i64 0) 8 rfl Try.underlying22 info3 rfl (by decide) (by omega) v169 y168 (rd_L1 l0 x9_1) _ _ _ (fun _ => True) (fun _ => False) rfl rfl ?aO ?aR (fun _ _ h => h) (fun _ h => h.elim) ?aF ?aB ?aS ?aL ?_; (case aR => repeat (first | exact (Kd.C_below HR167_0.out HB.out) | (with_reducible refine Kd.C_alloc ?_ _) | (with_reducible refine Kd.C_drewN ?_ _) | (with_reducible refine Kd.C_drew ?_))); (case aB => exact (by repeat (first | (with_reducible first | exact HB.out | apply below_alloc | apply pw_below_drewN | apply below_drew1) | exact HB.out))); (case aF => exact (fun _ _ => trivial)); (case aO => exact (by (with_reducible repeat (first | apply Kd.R_alloc | apply Kd.R_drewN | apply Kd.R_drew)); exact HO170.out)); (case aS => exact (below_size (by repeat (first | (with_reducible first | exact HB.out | apply below_alloc | apply pw_below_drewN | apply below_drew1) | exact HB.out)))); (case aL => have := LMc7.out; omega); intro v172 w11 ho hb hg hat; rw [← Ny171.out] at ho; have n0_ := Aside0.mk (Kd.S_after (ok := (fun _ => True)) (by (with_reducible repeat (first | apply Kd.S_alloc | apply Kd.S_drewN | apply Kd.S_drew)); exact HO_3.out) hg hat); have n1_ := Aside0.mk (hb); have n2_ := Aside0.mk (ho); clear HO_3; clear HB; clear HO170; have HO_3 := n0_; have HB := n1_; have HO173 := n2_; clear n0_ n1_ n2_; clear ho hb hg hat; obtain ⟨Ao13, co13, eo13⟩ := Kd.R_slice HO173.out; subst eo13) | ((with_reducible refine gate_builtin (b := .append) (xs := #[.tmp 13, .tmp 17]) rfl ?_); at_builtin; refine Kd.S_append (Kd.slice 3 (Kd.int .i64)) (w0 := w) w.heap.size rfl (.tmp 13) (.tmp 17) 26 22 (.slice none 0 0) 24 rfl Try.underlying26 info22 rfl (by decide) (by omega) u3 x3_1 y171 [.slice Ao13 y171.length co13] (fun _ => True) (fun k_ => some k_ = (.slice Ao13 y171.length co13 : Value).ownBlock) rfl rfl ?aP (fun k_ hk_ => ((Kd.R_mono (ok' := fun k_ => ((fun _ => True)) k_ ∧ some k_ ≠ (u3 : Value).ownBlock) (Kd.R_apart' (HO173.out) (Kd.S_typed HO_3.out) (by decide)) (fun k_ hk => ⟨trivial, hk.2⟩))).1 k_ hk_.symm) ?aF ?aO ?aB ?aS ?aL ?_; (case aP => exact Kd.M_row (Kd.R_mono (Kd.R_tight rfl (Kd.R_mono (ok' := fun k_ => ((fun _ => True)) k_ ∧ some k_ ≠ (u3 : Value).ownBlock) (Kd.R_apart' (HO173.out) (Kd.S_typed HO_3.out) (by decide)) (fun k_ hk => ⟨trivial, hk.2⟩))) (fun _ h_ => h_))); (case aB => exact (by repeat (first | (with_reducible first | exact HB.out | apply below_alloc | apply pw_below_drewN | apply below_drew1) | exact HB.out))); (case aF => exact (fun _ _ => trivial)); (case aO => exact (by (with_reducible repeat (first | apply Kd.S_alloc | apply Kd.S_drewN | apply Kd.S_drew)); exact Kd.S_mono HO_3.out (fun k_ hk => ⟨trivial, fun e_ => hk.2 e_⟩))); (case aS => exact (below_size (by repeat (first | (with_reducible first | exact HB.out | apply below_alloc | apply pw_below_drewN | apply below_drew1) | exact HB.out)))); (case aL => have := LMc8.out; omega); intro v175 w12 ho hb hg hat; rw [← Ny174.out] at ho; have n0_ := Aside0.mk (hb); have n1_ := Aside0.mk (ho); clear HB; clear HO_3; clear HO173; have HB := n0_; have HO176 := n1_; clear n0_ n1_; clear ho hb hg hat))
                go_roundg k1
                case measure => have := HK1.out; omega
                case rel => exact ⟨(y174), (wrap64 (x9_1 + 1)), (by first | rfl | (simp; done) | (simp [*]; done)), H', ⟨by have := HK1.out; omega⟩, ⟨by (with_reducible repeat (first | apply Kd.S_alloc | apply Kd.S_drewN | apply Kd.S_drew)); exact HO176.out⟩, ⟨by repeat (first | (with_reducible first | exact HB.out | apply below_alloc | apply pw_below_drewN | apply below_drew1) | exact HB.out)⟩⟩
              · rw [if_neg c8] at H
                exact absurd H (by simp)
            · rw [if_neg c7] at H
              exact absurd H (by simp)
          · rw [if_neg c6] at H
            exact absurd H (by simp)
        · rw [if_neg c5] at H
          exact absurd H (by simp)
      · rw [if_neg c4] at H
        have c4b0 : decide (x9_1 < (l0.length : Int)) = false := decide_eq_false c4
        clear c4
        obtain rfl := Option.some.inj H
        go_wp2
        go_ret
        exact ⟨_, by first | rfl | (simp [errW_none, errW_some] <;> rfl) | (simp [*, errW_none, errW_some] <;> rfl), by (with_reducible repeat (first | apply Kd.S_alloc | apply Kd.S_drewN | apply Kd.S_drew)); exact HO_3.out, by repeat (first | (with_reducible first | exact HB.out | apply below_alloc | apply pw_below_drewN | apply below_drew1) | exact HB.out)⟩

/-! ### impl_TurnedPieces: function 48 -/
/-! rows that lie apart, one of them written -/
def RowsF (f : Nat → Nat) (W : World) (base : Nat) (ok : Nat → Prop) (u : Value) (l : List (List Int)) : Prop := (Kd.tag f (Kd.slice 3 (Kd.int .i64))).R 22 W base ok u l.zipIdx
theorem rowsF_at {f : Nat → Nat} {W : World} {base : Nat} {ok : Nat → Prop} {u : Value} {l : List (List Int)} (h : RowsF f W base ok u l) (i : Nat) (hi : i < l.length) :
    ∃ g cap v, u = .slice (some ⟨g, 0, none⟩) l.length cap ∧ W.cell? ⟨g, i, none⟩ = some v ∧ Kd.R (Kd.int .i64) 3 W base (fun k => some k = v.ownBlock) v l[i] ∧ (∀ k, some k = v.ownBlock → ok k) ∧
      ∀ (W' : World) (r2 : List Int), Kd.R (Kd.int .i64) 3 W' base (fun _ => True) v r2 → Kept W W' (fun k => some k = v.ownBlock) → RowsF f W' base ok u (l.set i r2) := by
  obtain ⟨h0, inner, ho, hr⟩ := h
  rw [List.length_zipIdx] at ho
  rcases ho.2 with ⟨_, hn⟩ | ⟨g, cap, cur, eu, hb, hh, hc1, hc2, hc3, hc4⟩
  · omega
  · obtain ⟨v, hv, hR⟩ := hr.2 i (l[i], i) (Kd.zip_at (by simp [hi]))
    have hR : Kd.R (Kd.int .i64) 3 W base (fun k => (ok k ∧ some k ≠ u.ownBlock) ∧ f k = i) v l[i] := hR
    have hv : (inner.drop (i * 1)).take 1 = [v] := hv
    refine ⟨g, cap, v, eu, ?_, Kd.R_tight rfl hR, fun k hk => (hR.1 k hk.symm).1.1, ?_⟩
    · have h1 : cur.toList.take (l.length * 1) = inner := hc4
      have h2 : cur[i]? = some v := by
        rw [← h1] at hv
        have := congrArg (fun z : List Value => z[0]?) hv
        simpa [List.getElem?_take, List.getElem?_drop, hi] using this
      simp [World.cell?, hh, h2]
    · intro W' r2 hR' hkp
      refine ⟨h0, inner, ?_, ?_, fun j p hj => ?_⟩
      · rw [List.length_zipIdx, List.length_set]
        exact own_move ho (fun k hk => hkp.2 k (own_lt ho k hk) (fun e => (hR.1 k e.symm).1.2 hk.symm))
      · have := hr.1
        rw [List.length_zipIdx] at this ⊢
        rw [List.length_set]
        exact this
      · rw [List.getElem?_zipIdx] at hj
        obtain ⟨x, hx, rfl⟩ := Option.map_eq_some_iff.mp hj
        rw [Nat.zero_add]
        by_cases e : i = j
        · subst e
          rw [List.getElem?_set_self hi] at hx
          obtain rfl := Option.some.inj hx
          exact ⟨v, hv, Kd.R_mono (Kd.R_tight rfl hR') (fun k hk => hR.1 k hk.symm)⟩
        · rw [List.getElem?_set_ne e] at hx
          have hM : (Kd.slice 3 (Kd.int .i64)).M W base (fun k => (ok k ∧ some k ≠ u.ownBlock) ∧ f k = j) x ((inner.drop (j * 1)).take 1) := hr.2 j (x, j) (Kd.zip_at hx)
          have hN : (Kd.slice 3 (Kd.int .i64)).M W' base (fun k => (ok k ∧ some k ≠ u.ownBlock) ∧ f k = j) x ((inner.drop (j * 1)).take 1) := Kd.M_step hM (fun k hk hlt => hkp.2 k hlt (fun e2 => e ((hR.1 k e2.symm).2.symm.trans hk.2)))
          exact hN
/-- Marks, row after row; and the rows that they make. -/
def mkT : Nat → List (List Int) → Int → Int → Option (Int × List (List Int))
  | 0, _, _, _ => none
  | k + 1, l, a, i => if i < (l.length : Int) then (if 0 ≤ i then ((laws_markIntS.f k (rd_L1 l i) a).bind fun t => mkT k (l.set i.toNat t.2) t.1 (wrap64 (i + 1))) else none) else (some (a, l))
set_option maxHeartbeats 2000000 in
set_option maxRecDepth 100000 in
theorem marksSS.calls (k : Nat) (ok : Nat → Prop) (u : Value) (l0 : List (List Int)) (a1 r1 : Int) (r2 : List (List Int)) (w0 w : World) (hB : Below w0.heap.size w0 w) (ho : Kd.S (Kd.slice 3 (Kd.int .i64)) 22 w w0.heap.size ok u l0) (h : mkT k l0 a1 0 = some (r1, r2)) :
    Calls Try.prog 49 #[u, .int .i64 a1] w fun e w' => e = .returned (.int .i64 r1) ∧ Kd.S (Kd.slice 3 (Kd.int .i64)) 22 w' w0.heap.size ok u r2 ∧ Below w0.heap.size w0 w' ∧ Kept w w' ok := by
  obtain ⟨f, ho⟩ := ho
  obtain ⟨A, c, rfl⟩ := Kd.R_slice ho
  rw [List.length_zipIdx] at ho ⊢
  have H' := Aside0.mk h
  have HI := Aside0.mk (show RowsF f w w0.heap.size ok (.slice A l0.length c) l0 ∧ Below w0.heap.size w0 w ∧ Kept w w ok from ⟨ho, hB, Kept.refl w ok⟩)
  clear h ho hB
  go_enter Try.func49, Try.ntmps49
  go_wp2
  go_loopg [1, 5] k (fun kq v1 v5 w' => ∃ (l1 : List (List Int)) (x1_1 : Int) (x5_1 : Int), v1 = .int .i64 x1_1 ∧ v5 = .int .i64 x5_1 ∧ Aside0 (l1.length = l0.length) ∧ Aside0 (mkT kq l1 x1_1 x5_1 = some (r1, r2)) ∧ Aside0 (kq ≤ k) ∧ Aside0 (RowsF f w' w0.heap.size ok (.slice A l0.length c) l1 ∧ Below w0.heap.size w0 w' ∧ Kept w w' ok))
  case atStart => exact ⟨l0, a1, 0, rfl, rfl, ⟨rfl⟩, H', ⟨Nat.le_refl _⟩, HI⟩
  case round =>
    clear H' HI
    obtain ⟨l1, x1_1, x5_1, rfl, rfl, HL, HA, HK1, HI⟩ := hrel
    cases gk with
    | zero => exact absurd HA.out (by simp [mkT])
    | succ k1 =>
      have H := HA.out
      clear HA
      simp only [mkT] at H
      by_cases c3 : x5_1 < (l1.length : Int)
      · rw [if_pos c3] at H
        have hl := HL.out
        have c3b0 : decide (x5_1 < (l0.length : Int)) = true := decide_eq_true (by omega)
        by_cases c4 : 0 ≤ x5_1
        · rw [if_pos c4] at H
          have c4b0 : decide (0 ≤ x5_1) = true := decide_eq_true c4
          obtain ⟨t, ht, H⟩ := Option.bind_eq_some_iff.mp H
          have hi : (x5_1 : Int).toNat < l1.length := by omega
          obtain ⟨g, cap, v, eu, hcell, hvr, hvk, hwr⟩ := rowsF_at HI.out.1 (x5_1 : Int).toNat hi
          have hrd : rd_L1 l1 x5_1 = l1[(x5_1 : Int).toNat]'hi := by simp [rd_L1, List.getD_eq_getElem?_getD, hi]
          rw [← hrd] at hvr
          have HT := Aside0.mk ht
          have H' := Aside0.mk H
          have HVR := Aside0.mk hvr
          have HVK := Aside0.mk hvk
          have HWR := Aside0.mk hwr
          injection eu with eA en ec
          subst eA
          replace c3 : (x5_1 < (l0.length : Int)) = True := eq_true (by omega)
          replace c4 := eq_true c4
          clear ht H hvr hvk hwr hl hi hrd en ec
          go_wp2_with fail
          refine (laws_markIntS.calls k1 (fun k_ => some k_ = v.ownBlock) v _ x1_1 t.1 t.2 w0 wr HI.out.2.1 HVR.out HT.out).mono ?_
          rintro e w1 ⟨rfl, hr1, hb1, hk1⟩
          have HI1 := Aside0.mk (show RowsF f w1 w0.heap.size ok (.slice (some ⟨g, 0, none⟩) l0.length c) (l1.set (x5_1 : Int).toNat t.2) ∧ Below w0.heap.size w0 w1 ∧ Kept w w1 ok from ⟨HWR.out w1 t.2 (Kd.R_mono hr1 (fun _ _ => trivial)) hk1, hb1, HI.out.2.2.then_ hk1 (fun k_ hk => .inl (HVK.out k_ hk))⟩)
          clear hr1 hb1 hk1
          go_wp2
          go_roundg k1
          case measure => have := HK1.out; omega
          case rel => exact ⟨l1.set (x5_1 : Int).toNat t.2, t.1, wrap64 (x5_1 + 1), by first | rfl | (simp; done), by first | rfl | (simp; done), ⟨by rw [List.length_set]; exact HL.out⟩, H', ⟨by have := HK1.out; omega⟩, HI1⟩
        · rw [if_neg c4] at H
          exact absurd H (by simp)
      · rw [if_neg c3] at H
        have hl := HL.out
        have c3b0 : decide (x5_1 < (l0.length : Int)) = false := decide_eq_false (by omega)
        clear c3 hl
        obtain ⟨rfl, rfl⟩ := Prod.mk.inj (Option.some.inj H)
        clear H
        go_wp2
        go_ret
        exact ⟨rfl, ⟨f, HI.out.1⟩, HI.out.2⟩
def turn1 (p : List Int) : List Int := (p.set 0 (rd p 1)).set 1 (rd p 0)
def impl_TurnedPieces.l0 : Nat → Int → List (List Int) → Int → Option (List (List Int))
  | 0, _, _, _ => none
  | k + 1, wd, x, i => if i < (x.length : Int) then (if 0 ≤ i ∧ (rd_L1 x i).length = 2 then (if rd (rd_L1 x i) 1 > rd (rd_L1 x i) 0 then (if rd (rd_L1 x i) 1 ≤ wd then (impl_TurnedPieces.l0 k wd (x.set i.toNat (turn1 (rd_L1 x i))) (wrap64 (i + 1))) else (impl_TurnedPieces.l0 k wd x (wrap64 (i + 1)))) else (impl_TurnedPieces.l0 k wd x (wrap64 (i + 1)))) else none) else some x
theorem impl_TurnedPieces.mono_l : ∀ k, (∀ y0 y1 y2, LeO (impl_TurnedPieces.l0 k y0 y1 y2) (impl_TurnedPieces.l0 (k + 1) y0 y1 y2))
  | 0 => fun _ _ _ r h => by simp [impl_TurnedPieces.l0] at h
  | k + 1 => by
    have ih0 := impl_TurnedPieces.mono_l k
    intro y0 y1 y2
    unfold impl_TurnedPieces.l0
    repeat' first
      | (with_reducible exact ih0 _ _ _)
      | (with_reducible exact LeO.refl _)
      | (with_reducible exact LeO.none _)
      | (with_reducible refine LeO.ite ?_ ?_)
def impl_TurnedPieces.f (k : Nat) (l0 : List (List Int)) (a1 : Int) : Option (List (List Int) × Bool) := (impl_PiecesFit.f a1 l0).bind fun t => if t = true then ((impl_copyLists.f k l0).bind fun o => (impl_TurnedPieces.l0 k a1 o 0).bind fun z => some (z, true)) else some ([], false)
theorem impl_TurnedPieces.mono : ∀ a0 a1 k, LeO (impl_TurnedPieces.f k a0 a1) (impl_TurnedPieces.f (k + 1) a0 a1) := by
  intro a0 a1 k
  unfold impl_TurnedPieces.f
  refine LeO.bind (LeO.refl _) (fun _ => LeO.ite (LeO.bind (impl_copyLists.mono _ k) (fun _ => LeO.bind (impl_TurnedPieces.mono_l k _ _ _) (fun _ => LeO.refl _))) (LeO.refl _))
set_option maxHeartbeats 4000000 in
set_option maxRecDepth 100000 in
theorem impl_TurnedPieces.calls (k : Nat) (A0 : Option Addr) (c0 : Nat) (l0 : List (List Int)) (a1 : Int) (r1 : List (List Int)) (r2 : Bool) (w : World) (hr0 : Kd.C (Kd.slice 3 (Kd.int .i64)) w A0 l0.length l0) (hc0 : l0.length ≤ c0) (h : impl_TurnedPieces.f k l0 a1 = some (r1, r2)) :
    Calls Try.prog 48 #[.slice A0 l0.length c0, .int .i64 a1] w fun e w' => ∃ v0_ : Value, e = .returned (.tuple #[v0_, .bool r2]) ∧ Kd.S (Kd.slice 3 (Kd.int .i64)) 22 w' w.heap.size (fun _ => True) v0_ r1 ∧ Below w.heap.size w w' := by
  obtain ⟨t, ht, h⟩ := Option.bind_eq_some_iff.mp h
  have HT := Aside0.mk ht
  have HR := Aside0.mk hr0
  have HC := Aside0.mk hc0
  clear ht hr0 hc0
  go_enter Try.func48, Try.ntmps48
  go_wp2_with fail
  refine (impl_PiecesFit.calls a1 A0 c0 l0 t w HR.out HC.out HT.out).mono ?_
  rintro e w2 ⟨rfl, hb⟩
  have HB := Aside0.mk hb
  clear hb
  cases t with
  | false =>
    obtain ⟨rfl, rfl⟩ := Prod.mk.inj (Option.some.inj (show some ([], false) = some (r1, r2) from h))
    clear h
    go_wp2
    go_ret2
    exact ⟨_, rfl, Kd.S_nil _ _ _ _ _, HB.out⟩
  | true =>
    replace h : ((impl_copyLists.f k l0).bind fun o => (impl_TurnedPieces.l0 k a1 o 0).bind fun z => some (z, true)) = some (r1, r2) := h
    obtain ⟨o, ho, h⟩ := Option.bind_eq_some_iff.mp h
    obtain ⟨z, hz, h⟩ := Option.bind_eq_some_iff.mp h
    obtain ⟨rfl, rfl⟩ := Prod.mk.inj (Option.some.inj h)
    have HO := Aside0.mk ho
    have HZ := Aside0.mk hz
    clear ho hz h
    go_wp2_with fail
    refine (impl_copyLists.calls k A0 c0 l0 o w2 (Kd.C_below HR.out HB.out) HC.out HO.out).mono ?_
    rintro e w3 ⟨v3, rfl, hs3, hb3⟩
    have hs3' := Kd.S_lower hs3 (below_size HB.out)
    obtain ⟨f, hs4⟩ := hs3'
    obtain ⟨A3, c3, rfl⟩ := Kd.R_slice (Kd.S_R hs3)
    have HI := Aside0.mk (show RowsF f w3 w.heap.size (fun _ => True) (.slice A3 o.length c3) o ∧ Below w.heap.size w w3 from ⟨hs4, below_step HB.out hb3⟩)
    clear hs3 hs4 hb3 HB
    go_wp2
    go_loopg [17] k (fun kq v17 w' => ∃ (x : List (List Int)) (i : Int), v17 = .int .i64 i ∧ Aside0 (x.length = o.length) ∧ Aside0 (impl_TurnedPieces.l0 kq a1 x i = some z) ∧ Aside0 (kq ≤ k) ∧ Aside0 (RowsF f w' w.heap.size (fun _ => True) (.slice A3 o.length c3) x ∧ Below w.heap.size w w'))
    case atStart => exact ⟨o, 0, rfl, ⟨rfl⟩, HZ, ⟨Nat.le_refl _⟩, HI⟩
    case round =>
      clear HI HZ
      obtain ⟨x, i, rfl, HL, HA, HK1, HI⟩ := hrel
      cases gk with
      | zero => exact absurd HA.out (by simp [impl_TurnedPieces.l0])
      | succ k1 =>
        have H := HA.out
        clear HA
        simp only [impl_TurnedPieces.l0] at H
        by_cases c1 : i < (x.length : Int)
        · rw [if_pos c1] at H
          have hl := HL.out
          have c1b0 : decide (i < (o.length : Int)) = true := decide_eq_true (by omega)
          by_cases c2 : 0 ≤ i ∧ (rd_L1 x i).length = 2
          · rw [if_pos c2] at H
            obtain ⟨c4, c5⟩ := c2
            have hi : (i : Int).toNat < x.length := by omega
            obtain ⟨g, cap, v, eu, hcell, hvr, hvk, hwr⟩ := rowsF_at HI.out.1 (i : Int).toNat hi
            have hrd : rd_L1 x i = x[(i : Int).toNat]'hi := by simp [rd_L1, List.getD_eq_getElem?_getD, hi]
            rw [← hrd] at hvr
            injection eu with eA en ec
            subst eA
            obtain ⟨p, hp⟩ : ∃ p, rd_L1 x i = p := ⟨_, rfl⟩
            rw [hp] at hvr c5 H
            obtain ⟨go, co, ev, hgb, _, _, _⟩ := Kd.R_form hvr (by omega)
            have HGB := Aside0.mk hgb
            clear hgb
            subst ev
            rw [c5] at hvr hcell hwr
            obtain ⟨hx0, hf0⟩ := Kd.R_celln 0 hvr 0 (by omega) (by omega)
            obtain ⟨hx1, hf1⟩ := Kd.R_celln 0 hvr 1 (by omega) (by omega)
            replace hx0 : wr.cell? ⟨go, 0, none⟩ = some (.int .i64 (rd p 0)) := hx0
            replace hx1 : wr.cell? ⟨go, 1, none⟩ = some (.int .i64 (rd p 1)) := hx1
            replace hf0 : wr.frozen? ⟨go, 0, none⟩ = false := hf0
            replace hf1 : wr.frozen? ⟨go, 1, none⟩ = false := hf1
            obtain ⟨p0, hp0⟩ : ∃ p0, rd p 0 = p0 := ⟨_, rfl⟩
            obtain ⟨p1, hp1⟩ : ∃ p1, rd p 1 = p1 := ⟨_, rfl⟩
            rw [hp0] at hx0 H
            rw [hp1] at hx1 H
            have HVR := Aside0.mk hvr
            have HWR := Aside0.mk hwr
            have HP := Aside0.mk hp
            have HP0 := Aside0.mk hp0
            have HP1 := Aside0.mk hp1
            have C5 := Aside0.mk c5
            replace c1 : (i < (o.length : Int)) = True := eq_true (by omega)
            replace c4 := eq_true c4
            clear hvr hvk hwr hl hi hrd en ec hp hp0 hp1 c5
            by_cases c6 : p1 > p0
            · rw [if_pos c6] at H
              have c6b0 : decide (p1 > p0) = true := decide_eq_true c6
              clear c6
              by_cases c7 : p1 ≤ a1
              · rw [if_pos c7] at H
                have c7b0 : decide (p1 ≤ a1) = true := decide_eq_true c7
                clear c7
                have H' := Aside0.mk H
                clear H
                go_wp2
                go_quiet (fail)
                go_wp2
                replace hx0 : (wr.drewN nq).cell? ⟨go, 0, none⟩ = some (.int .i64 p0) := hx0
                replace hx1 : (wr.drewN nq).cell? ⟨go, 1, none⟩ = some (.int .i64 p1) := hx1
                replace hf0 : (wr.drewN nq).frozen? ⟨go, 0, none⟩ = false := hf0
                replace hf1 : (wr.drewN nq).frozen? ⟨go, 1, none⟩ = false := hf1
                have HVR2 := Aside0.mk (Kd.R_drewN HVR.out nq)
                have HBW := Aside0.mk (pw_below_drewN HI.out.2 nq)
                have HKW := Aside0.mk (Kept.drewN (Kept.refl wr (fun k => some k = (Value.slice (some ⟨go, 0, none⟩) 2 co).ownBlock)) nq)
                generalize wr.drewN nq = wq at hx0 hx1 hf0 hf1 HVR2 HBW HKW ⊢
                go_big_region
                have HRW := Aside0.mk (Kd.R_drew (Kd.R_putg (Kd.R_putg HVR2.out 0 p1).1 1 p0).1)
                have HKW2 := Aside0.mk (Kept.drew (Kept.setCell (Kept.setCell HKW.out (p := ⟨go, 0, none⟩) (.inl rfl) (.int .i64 p1)) (p := ⟨go, 1, none⟩) (.inl rfl) (.int .i64 p0)))
                have HBW2 := Aside0.mk (below_drew (below_set (j := 1) (v := .int .i64 p0) (below_set (j := 0) (v := .int .i64 p1) HBW.out HGB.out) HGB.out))
                clear hx0 hx1 hf0 hf1
                go_wp2
                go_roundg k1
                case measure => have := HK1.out; omega
                case rel =>
                  have ht : (p.set 0 p1).set 1 p0 = turn1 p := by rw [← HP0.out, ← HP1.out]; rfl
                  have hrw := HRW.out
                  have h2 := HWR.out _ (turn1 p) (by rw [← ht]; exact Kd.R_mono hrw (fun _ _ => trivial)) HKW2.out
                  exact ⟨x.set (i : Int).toNat (turn1 p), wrap64 (i + 1), by first | rfl | (simp; done), ⟨by rw [List.length_set]; exact HL.out⟩, H', ⟨by have := HK1.out; omega⟩, ⟨h2, HBW2.out⟩⟩
              · rw [if_neg c7] at H
                have c7b0 : decide (p1 ≤ a1) = false := decide_eq_false c7
                clear c7
                have H' := Aside0.mk H
                clear H
                go_wp2
                go_quiet (fail)
                go_wp2
                go_roundg k1
                case measure => have := HK1.out; omega
                case rel => exact ⟨x, wrap64 (i + 1), by first | rfl | (simp; done), HL, H', ⟨by have := HK1.out; omega⟩, ⟨Kd.R_drewN HI.out.1 _, pw_below_drewN HI.out.2 _⟩⟩
            · rw [if_neg c6] at H
              have c6b0 : decide (p1 > p0) = false := decide_eq_false c6
              clear c6
              have H' := Aside0.mk H
              clear H
              go_wp2
              go_quiet (fail)
              go_wp2
              go_roundg k1
              case measure => have := HK1.out; omega
              case rel => exact ⟨x, wrap64 (i + 1), by first | rfl | (simp; done), HL, H', ⟨by have := HK1.out; omega⟩, ⟨Kd.R_drewN HI.out.1 _, pw_below_drewN HI.out.2 _⟩⟩
          · rw [if_neg c2] at H
            exact absurd H (by simp)
        · rw [if_neg c1] at H
          have hl := HL.out
          have c1b0 : decide (i < (o.length : Int)) = false := decide_eq_false (by omega)
          clear c1 hl
          obtain rfl := Option.some.inj H
          clear H
          go_wp2
          go_ret2
          exact ⟨_, rfl, ⟨f, HI.out.1⟩, HI.out.2⟩

end Go.Proofs.Ytcmmammefghjdaa.XFnExactTurnedPieces
