/- What functions of the program compute, as plain Lean functions, and that Go's calls come to just that: written by wip/tools/xprint.py for the law FnEdgecuts. -/
import Derived.Test.YthjiccclpalobaaDoorXFnEdgecutsx0
import Derived.Test.YthjiccclpalobaaDoorXFnEdgecutsx1
namespace Go.Proofs.YthjiccclpalobaaDoor.XFnEdgecuts
open Go.RowKit Go.Proofs.YthjiccclpalobaaDoorW.PrintWords Go.Proofs.YthjiccclpalobaaDoorW.PrintLast Go.Proofs.YthjiccclpalobaaDoorW.PrintMore
attribute [local go_sem] max2_int min2_int max_two min_two max_three min_three max_four min_four   -- for this text's walks alone
set_option linter.unusedVariables false
set_option linter.unusedSimpArgs false

/-! ### impl_BestValue: function 7 -/
theorem bv_size : (Tryd.prog.info? 44).map (·.size) = some Tryd.zeroCells44.size := by kernel_rfl
theorem bv_one : Tryd.zeroCells44.all (·.oneCell') = true := by kernel_rfl
theorem bv_zero : Tryd.zeroCells44 = ((List.replicate 289 (0 : Int)).map (Value.int .i64)).toArray := by kernel_rfl
theorem bv_start (w : World) : (storeCells ⟨w.heap.size + 1, 0, none⟩ Tryd.zeroCells44.toList).run Tryd.prog ((w.alloc (.cells Tryd.zeroCells44 44)).alloc (.cells Tryd.zeroCells44 44)) = .ok () ((w.alloc (.cells Tryd.zeroCells44 44)).alloc (.cells Tryd.zeroCells44 44)) := by
  have h := run_storeCells_new (P := Tryd.prog) (w.alloc (.cells Tryd.zeroCells44 44)) 44 _ _ bv_size rfl bv_one
  have e : (w.alloc (.cells Tryd.zeroCells44 44)).heap.size = w.heap.size + 1 := by
    show (w.heap.push _).size = _
    simp
  rw [e] at h
  exact h
structure BvI (w W : World) (xs : List Int) : Prop where
  t : W.heap[w.heap.size + 1]? = some (.cells (xs.map (Value.int .i64)).toArray 44 (0, 0))
  r : W.heap[w.heap.size]? = some (.cells Tryd.zeroCells44 44 (0, 0))
  b : Below w.heap.size w W
  len : xs.length = 289
theorem BvI.cell {w W : World} {xs : List Int} (h : BvI w W xs) (j : Nat) (hj : j < 289) : W.cell? ⟨w.heap.size + 1, j, none⟩ = some (.int .i64 (xs.getD j 0)) ∧ W.frozen? ⟨w.heap.size + 1, j, none⟩ = false := by
  have hl := h.len
  refine ⟨?_, by simp [World.frozen?, h.t]⟩
  simp [World.cell?, h.t, List.getD_eq_getElem?_getD, show j < xs.length by omega]
theorem BvI.set {w W : World} {xs : List Int} (h : BvI w W xs) (j : Nat) (u : Int) : BvI w (W.setCell ⟨w.heap.size + 1, j, none⟩ (.int .i64 u)) (xs.set j u) := by
  refine ⟨?_, (Below.heap_setCell W ⟨w.heap.size + 1, j, none⟩ _ w.heap.size (by show w.heap.size ≠ w.heap.size + 1; omega)).trans h.r, below_set h.b (by show w.heap.size ≤ w.heap.size + 1; omega), by rw [List.length_set]; exact h.len⟩
  show (W.heap.modify (w.heap.size + 1) _)[w.heap.size + 1]? = _
  rw [Array.getElem?_modify, if_pos rfl, h.t]
  simp [List.map_set]
theorem BvI.below {w W W' : World} {xs : List Int} (h : BvI w W xs) (hb : Below W.heap.size W W') : BvI w W' xs :=
  ⟨(hb.block _ (Array.getElem?_eq_some_iff.1 h.t).1).trans h.t, (hb.block _ (Array.getElem?_eq_some_iff.1 h.r).1).trans h.r, below_step h.b hb, h.len⟩
theorem bv_setRow {w W : World} (h : Below w.heap.size w W) (cs : Array Value) : Below w.heap.size w (W.setRow w.heap.size cs) :=
  ⟨h.os, h.tape, h.output, by
    have := h.size
    show _ ≤ (Array.modify _ _ _).size
    rw [Array.size_modify]
    exact this, fun k hk => (setRow_other W w.heap.size k cs (by omega)).trans (h.block k hk)⟩
mutual
def bvs.a : Nat → Int → Int → List (List Int) → List Int → Int → Option (List Int)
  | 0, _, _, _, _, _ => none
  | k + 1, w, h, ps, xs, a => if a ≤ w then bvs.b k w h ps xs a 1 else some xs
def bvs.b : Nat → Int → Int → List (List Int) → List Int → Int → Int → Option (List Int)
  | 0, _, _, _, _, _, _ => none
  | k + 1, w, h, ps, xs, a, b => if b ≤ h then bvs.l k w h ps xs a b 0 else bvs.a k w h ps xs (wrap64 (a + 1))
def bvs.l : Nat → Int → Int → List (List Int) → List Int → Int → Int → Int → Option (List Int)
  | 0, _, _, _, _, _, _, _ => none
  | k + 1, w, h, ps, xs, a, b, i => if i < (ps.length : Int) then (if 0 ≤ i ∧ (rd_L2 ps i).length = 3 ∧ (0 ≤ a ∧ a < 17) ∧ 0 ≤ b ∧ b < 17 then (if rd (rd_L2 ps i) 0 = a then (if rd (rd_L2 ps i) 1 = b then bvs.l k w h ps (xs.set (a.toNat * 17 + b.toNat) (mx (xs.getD (a.toNat * 17 + b.toNat) 0) (rd (rd_L2 ps i) 2))) a b (wrap64 (i + 1)) else bvs.l k w h ps xs a b (wrap64 (i + 1))) else bvs.l k w h ps xs a b (wrap64 (i + 1))) else none) else bvs.p k w h ps xs a b 1
def bvs.p : Nat → Int → Int → List (List Int) → List Int → Int → Int → Int → Option (List Int)
  | 0, _, _, _, _, _, _, _ => none
  | k + 1, w, h, ps, xs, a, b, c => if c < a then (if (0 ≤ c ∧ a < 17) ∧ (0 ≤ b ∧ b < 17) ∧ 0 ≤ wrap64 (a - c) ∧ wrap64 (a - c) < 17 then bvs.p k w h ps (xs.set (a.toNat * 17 + b.toNat) (mx (xs.getD (a.toNat * 17 + b.toNat) 0) (wrap64 (xs.getD (c.toNat * 17 + b.toNat) 0 + xs.getD ((wrap64 (a - c)).toNat * 17 + b.toNat) 0)))) a b (wrap64 (c + 1)) else none) else bvs.q k w h ps xs a b 1
def bvs.q : Nat → Int → Int → List (List Int) → List Int → Int → Int → Int → Option (List Int)
  | 0, _, _, _, _, _, _, _ => none
  | k + 1, w, h, ps, xs, a, b, c => if c < b then (if (0 ≤ c ∧ b < 17) ∧ (0 ≤ a ∧ a < 17) ∧ 0 ≤ wrap64 (b - c) ∧ wrap64 (b - c) < 17 then bvs.q k w h ps (xs.set (a.toNat * 17 + b.toNat) (mx (xs.getD (a.toNat * 17 + b.toNat) 0) (wrap64 (xs.getD (a.toNat * 17 + c.toNat) 0 + xs.getD (a.toNat * 17 + (wrap64 (b - c)).toNat) 0)))) a b (wrap64 (c + 1)) else none) else bvs.b k w h ps xs a (wrap64 (b + 1))
end
theorem bvs.mono_l (w h : Int) (ps : List (List Int)) : ∀ k, (∀ y0 y1, LeO (bvs.a k w h ps y0 y1) (bvs.a (k + 1) w h ps y0 y1)) ∧ (∀ y0 y1 y2, LeO (bvs.b k w h ps y0 y1 y2) (bvs.b (k + 1) w h ps y0 y1 y2)) ∧ (∀ y0 y1 y2 y3, LeO (bvs.l k w h ps y0 y1 y2 y3) (bvs.l (k + 1) w h ps y0 y1 y2 y3)) ∧ (∀ y0 y1 y2 y3, LeO (bvs.p k w h ps y0 y1 y2 y3) (bvs.p (k + 1) w h ps y0 y1 y2 y3)) ∧ (∀ y0 y1 y2 y3, LeO (bvs.q k w h ps y0 y1 y2 y3) (bvs.q (k + 1) w h ps y0 y1 y2 y3))
  | 0 => ⟨fun _ _ r h => by simp [bvs.a] at h, fun _ _ _ r h => by simp [bvs.b] at h, fun _ _ _ _ r h => by simp [bvs.l] at h, fun _ _ _ _ r h => by simp [bvs.p] at h, fun _ _ _ _ r h => by simp [bvs.q] at h⟩
  | k + 1 => by
    obtain ⟨ih0, ih1, ih2, ih3, ih4⟩ := bvs.mono_l w h ps k
    refine ⟨?_, ?_, ?_, ?_, ?_⟩
    · intro y0 y1
      unfold bvs.a
      repeat' first
        | (with_reducible exact ih0 _ _)
        | (with_reducible exact ih1 _ _ _)
        | (with_reducible exact ih2 _ _ _ _)
        | (with_reducible exact ih3 _ _ _ _)
        | (with_reducible exact ih4 _ _ _ _)
        | (with_reducible exact LeO.refl _)
        | (with_reducible exact LeO.none _)
        | (with_reducible refine LeO.ite ?_ ?_)
    · intro y0 y1 y2
      unfold bvs.b
      repeat' first
        | (with_reducible exact ih0 _ _)
        | (with_reducible exact ih1 _ _ _)
        | (with_reducible exact ih2 _ _ _ _)
        | (with_reducible exact ih3 _ _ _ _)
        | (with_reducible exact ih4 _ _ _ _)
        | (with_reducible exact LeO.refl _)
        | (with_reducible exact LeO.none _)
        | (with_reducible refine LeO.ite ?_ ?_)
    · intro y0 y1 y2 y3
      unfold bvs.l
      repeat' first
        | (with_reducible exact ih0 _ _)
        | (with_reducible exact ih1 _ _ _)
        | (with_reducible exact ih2 _ _ _ _)
        | (with_reducible exact ih3 _ _ _ _)
        | (with_reducible exact ih4 _ _ _ _)
        | (with_reducible exact LeO.refl _)
        | (with_reducible exact LeO.none _)
        | (with_reducible refine LeO.ite ?_ ?_)
    · intro y0 y1 y2 y3
      unfold bvs.p
      repeat' first
        | (with_reducible exact ih0 _ _)
        | (with_reducible exact ih1 _ _ _)
        | (with_reducible exact ih2 _ _ _ _)
        | (with_reducible exact ih3 _ _ _ _)
        | (with_reducible exact ih4 _ _ _ _)
        | (with_reducible exact LeO.refl _)
        | (with_reducible exact LeO.none _)
        | (with_reducible refine LeO.ite ?_ ?_)
    · intro y0 y1 y2 y3
      unfold bvs.q
      repeat' first
        | (with_reducible exact ih0 _ _)
        | (with_reducible exact ih1 _ _ _)
        | (with_reducible exact ih2 _ _ _ _)
        | (with_reducible exact ih3 _ _ _ _)
        | (with_reducible exact ih4 _ _ _ _)
        | (with_reducible exact LeO.refl _)
        | (with_reducible exact LeO.none _)
        | (with_reducible refine LeO.ite ?_ ?_)
def impl_bestValues.f (k : Nat) (w h : Int) (ps : List (List Int)) : Option (List Int) := bvs.a k w h ps (List.replicate 289 0) 1
theorem impl_bestValues.mono (w h : Int) (ps : List (List Int)) (k : Nat) : LeO (impl_bestValues.f k w h ps) (impl_bestValues.f (k + 1) w h ps) := (bvs.mono_l w h ps k).1 _ _
set_option maxHeartbeats 8000000 in
set_option maxRecDepth 100000 in
theorem impl_bestValues.calls (k : Nat) (a0 a1 : Int) (A1 : Option Addr) (c1 : Nat) (l1 : List (List Int)) (r : List Int) (w : World) (hr1 : Kd.C (Kd.slice 3 (Kd.int .i64)) w A1 l1.length l1) (hc1 : l1.length ≤ c1) (h : impl_bestValues.f k a0 a1 l1 = some r) :
    Calls Tryd.prog 23 #[.int .i64 a0, .int .i64 a1, .slice A1 l1.length c1] w fun e w' => e = .returned (.agg (r.map (Value.int .i64)).toArray) ∧ r.length = 289 ∧ Below w.heap.size w w' := by
  have hst := bv_start w
  have HR := Aside0.mk hr1
  have HC := Aside0.mk hc1
  have H' := Aside0.mk (show bvs.a k a0 a1 l1 (List.replicate 289 0) 1 = some r from h)
  clear hr1 hc1 h
  go_enter Tryd.func23, Tryd.ntmps23
  go_upto_region 2 with (fail)
  have HI := Aside0.mk (show BvI w ((w.alloc (.cells Tryd.zeroCells44 44)).alloc (.cells Tryd.zeroCells44 44)) (List.replicate 289 0) from ⟨by
      rw [← bv_zero]
      have e : (w.alloc (.cells Tryd.zeroCells44 44)).heap.size = w.heap.size + 1 := by
        show (w.heap.push _).size = _
        simp
      rw [← e]
      show ((w.alloc (.cells Tryd.zeroCells44 44)).heap.push _)[(w.alloc (.cells Tryd.zeroCells44 44)).heap.size]? = _
      rw [Array.getElem?_push_size], (Below.block (below_alloc (Below.refl (w.alloc (.cells Tryd.zeroCells44 44)).heap.size _) _) w.heap.size (by show _ < (w.heap.push _).size; simp)).trans (by show (w.heap.push _)[w.heap.size]? = _; simp), below_alloc (below_alloc (Below.refl _ _) _) _, List.length_replicate⟩)
  clear hst
  generalize ((w.alloc (.cells Tryd.zeroCells44 44)).alloc (.cells Tryd.zeroCells44 44)) = w1 at HI ⊢
  go_wp2
  go_loopg [8] k (fun kq v8 w' => ∃ (xs : List Int) (a : Int), v8 = .int .i64 a ∧ Aside0 (bvs.a kq a0 a1 l1 xs a = some r) ∧ Aside0 (kq ≤ k) ∧ Aside0 (BvI w w' xs))
  case atStart => exact ⟨_, 1, rfl, H', ⟨Nat.le_refl _⟩, HI⟩
  case round =>
    clear H' HI
    obtain ⟨xs, a, rfl, HA, HK0, HI⟩ := hrel
    cases gk with
    | zero => exact absurd HA.out (by simp [bvs.a])
    | succ k0 =>
      have H := HA.out
      clear HA
      simp only [bvs.a] at H
      by_cases c0 : a ≤ a0
      · rw [if_pos c0] at H
        have c0b : decide (a ≤ a0) = true := decide_eq_true c0
        have H' := Aside0.mk H
        clear H c0
        go_wp2
        go_loopg [9] k0 (fun kq v9 w' => ∃ (xs : List Int) (b : Int), v9 = .int .i64 b ∧ Aside0 (bvs.b kq a0 a1 l1 xs a b = some r) ∧ Aside0 (kq ≤ k0) ∧ Aside0 (BvI w w' xs))
        case atStart => exact ⟨_, 1, rfl, H', ⟨Nat.le_refl _⟩, HI⟩
        case round =>
          clear H' HI c0b
          obtain ⟨xs, b, rfl, HA, HK1, HI⟩ := hrel
          cases gk with
          | zero => exact absurd HA.out (by simp [bvs.b])
          | succ k1 =>
            have H := HA.out
            clear HA
            simp only [bvs.b] at H
            by_cases c1 : b ≤ a1
            · rw [if_pos c1] at H
              have c1b : decide (b ≤ a1) = true := decide_eq_true c1
              have H' := Aside0.mk H
              clear H c1
              go_wp2
              go_loopg [27] k1 (fun kq v27 w' => ∃ (xs : List Int) (i : Int), v27 = .int .i64 i ∧ Aside0 (bvs.l kq a0 a1 l1 xs a b i = some r) ∧ Aside0 (kq ≤ k1) ∧ Aside0 (BvI w w' xs))
              case atStart => exact ⟨_, 0, rfl, H', ⟨Nat.le_refl _⟩, HI⟩
              case round =>
                clear H' HI c1b
                obtain ⟨xs, i, rfl, HA, HK2, HI⟩ := hrel
                cases gk with
                | zero => exact absurd HA.out (by simp [bvs.l])
                | succ k2 =>
                  have H := HA.out
                  clear HA
                  simp only [bvs.l] at H
                  by_cases c2 : i < (l1.length : Int)
                  · rw [if_pos c2] at H
                    by_cases c3 : 0 ≤ i ∧ (rd_L2 l1 i).length = 3 ∧ (0 ≤ a ∧ a < 17) ∧ 0 ≤ b ∧ b < 17
                    · rw [if_pos c3] at H
                      obtain ⟨c3a, c3b, ⟨c3c, c3d⟩, c3e, c3f⟩ := c3
                      have c2b : decide (i < (l1.length : Int)) = true := decide_eq_true c2
                      obtain ⟨ad1, A5, c5, e5, hx5, _, hr5⟩ := at_L2 (Kd.C_below HR.out HI.out.b) i c3a c2
                      cases e5
                      rw [c3b] at hx5 hr5
                      obtain ⟨ad2, e6, hx6⟩ := Kd.at_int hr5 0 (by omega) (by omega)
                      cases e6
                      obtain ⟨ad3, e7, hx7⟩ := Kd.at_int hr5 1 (by omega) (by omega)
                      cases e7
                      obtain ⟨ad4, e8, hx8⟩ := Kd.at_int hr5 2 (by omega) (by omega)
                      cases e8
                      obtain ⟨q0, hq0⟩ : ∃ q_, rd (rd_L2 l1 i) 0 = q_ := ⟨_, rfl⟩
                      obtain ⟨q1, hq1⟩ : ∃ q_, rd (rd_L2 l1 i) 1 = q_ := ⟨_, rfl⟩
                      obtain ⟨q2, hq2⟩ : ∃ q_, rd (rd_L2 l1 i) 2 = q_ := ⟨_, rfl⟩
                      rw [hq0] at H hx6
                      rw [hq1] at H hx7
                      rw [hq2] at H hx8
                      (try rw [show ((0 : Int)).toNat = 0 from rfl] at hx6)
                      (try rw [Addr.add_zero'] at hx6)
                      have hx7' := hx7
                      have hx8' := hx8
                      (try simp only [show (1 : Int).toNat = 1 from rfl, Nat.reduceMul, Nat.reduceEqDiff, Go.Addr.add, ↓reduceIte] at hx7)
                      (try simp only [show (2 : Int).toNat = 2 from rfl, Nat.reduceMul, Nat.reduceEqDiff, Go.Addr.add, ↓reduceIte] at hx8)
                      obtain ⟨hxt, hft⟩ := HI.out.cell (a.toNat * 17 + b.toNat) (by omega)
                      obtain ⟨u0, hu0⟩ : ∃ u_, xs.getD (a.toNat * 17 + b.toNat) 0 = u_ := ⟨_, rfl⟩
                      rw [hu0] at hxt H
                      have C2 := eq_true c2
                      have C3a := eq_true c3a
                      have C3c := eq_true c3c
                      have C3d := eq_true c3d
                      have C3e := eq_true c3e
                      have C3f := eq_true c3f
                      clear hq0 hq1 hq2 hr5 hu0
                      by_cases c4 : q0 = a
                      · rw [if_pos c4] at H
                        have c4b : (q0 == a) = true := beq_iff_eq.mpr c4
                        by_cases c6 : q1 = b
                        · rw [if_pos c6] at H
                          have c6b : (q1 == b) = true := beq_iff_eq.mpr c6
                          have H' := Aside0.mk H
                          clear H c4 c6 c2 c3a c3c c3d c3e c3f
                          obtain ⟨z, hz⟩ : ∃ z_, mx u0 q2 = z_ := ⟨_, rfl⟩
                          rw [hz] at H'
                          have HZ := Aside0.mk hz
                          clear hz
                          go_upto_region 12 with (fail)
                          go_big_region
                          go_wp2
                          all_goals
                            have e := HZ.out
                            unfold mx at e
                            first | (rw [if_pos (by omega)] at e) | (rw [if_neg (by omega)] at e)
                            subst e
                            go_roundg k2
                            case measure => have := HK2.out; omega
                            case rel => exact ⟨_, wrap64 (i + 1), by first | rfl | (simp; done), H', ⟨by have := HK2.out; omega⟩, ⟨(HI.out.set _ _).below (below_drew (Below.refl _ _))⟩⟩
                        · rw [if_neg c6] at H
                          have c6b : (q1 == b) = false := beq_eq_false_iff_ne.mpr c6
                          have H' := Aside0.mk H
                          clear H c4 c6 c2 c3a c3c c3d c3e c3f
                          go_wp2
                          go_roundg k2
                          case measure => have := HK2.out; omega
                          case rel => exact ⟨xs, wrap64 (i + 1), by first | rfl | (simp; done), H', ⟨by have := HK2.out; omega⟩, HI⟩
                      · rw [if_neg c4] at H
                        have c4b : (q0 == a) = false := beq_eq_false_iff_ne.mpr c4
                        have H' := Aside0.mk H
                        clear H c4 c2 c3a c3c c3d c3e c3f
                        go_wp2
                        go_roundg k2
                        case measure => have := HK2.out; omega
                        case rel => exact ⟨xs, wrap64 (i + 1), by first | rfl | (simp; done), H', ⟨by have := HK2.out; omega⟩, HI⟩
                    · rw [if_neg c3] at H
                      exact absurd H (by simp)
                  · rw [if_neg c2] at H
                    have c2b : decide (i < (l1.length : Int)) = false := decide_eq_false c2
                    have H' := Aside0.mk H
                    clear H c2
                    go_wp2
                    go_loopg [12] k2 (fun kq v12 w' => ∃ (xs : List Int) (c : Int), v12 = .int .i64 c ∧ Aside0 (bvs.p kq a0 a1 l1 xs a b c = some r) ∧ Aside0 (kq ≤ k2) ∧ Aside0 (BvI w w' xs))
                    case atStart => exact ⟨_, 1, rfl, H', ⟨Nat.le_refl _⟩, HI⟩
                    case round =>
                      clear H' HI c2b
                      obtain ⟨xs, c, rfl, HA, k3K, HI⟩ := hrel
                      cases gk with
                      | zero => exact absurd HA.out (by simp [bvs.p])
                      | succ k3 =>
                        have H := HA.out
                        clear HA
                        simp only [bvs.p] at H
                        by_cases c4 : c < a
                        · rw [if_pos c4] at H
                          by_cases c5 : (0 ≤ c ∧ a < 17) ∧ (0 ≤ b ∧ b < 17) ∧ 0 ≤ wrap64 (a - c) ∧ wrap64 (a - c) < 17
                          · rw [if_pos c5] at H
                            obtain ⟨⟨d1, d2⟩, ⟨d3, d4⟩, d5, d6⟩ := c5
                            have c4b : decide (c < a) = true := decide_eq_true c4
                            obtain ⟨hx1, hf1⟩ := HI.out.cell (a.toNat * 17 + b.toNat) (by omega)
                            obtain ⟨hx2, hf2⟩ := HI.out.cell (c.toNat * 17 + b.toNat) (by omega)
                            obtain ⟨hx3, hf3⟩ := HI.out.cell ((wrap64 (a - c)).toNat * 17 + b.toNat) (by omega)
                            obtain ⟨u1, hu1⟩ : ∃ u_, xs.getD (a.toNat * 17 + b.toNat) 0 = u_ := ⟨_, rfl⟩
                            obtain ⟨u2, hu2⟩ : ∃ u_, xs.getD (c.toNat * 17 + b.toNat) 0 = u_ := ⟨_, rfl⟩
                            obtain ⟨u3, hu3⟩ : ∃ u_, xs.getD ((wrap64 (a - c)).toNat * 17 + b.toNat) 0 = u_ := ⟨_, rfl⟩
                            rw [hu1] at hx1
                            rw [hu2] at hx2
                            rw [hu3] at hx3
                            rw [hu1, hu2, hu3] at H
                            have H' := Aside0.mk H
                            have D1 := eq_true d1
                            have D2 := eq_true (show c < 17 by omega)
                            have D3 := eq_true d3
                            have D4 := eq_true d4
                            have D5 := eq_true d5
                            have D6 := eq_true d6
                            have D7 := eq_true d2
                            have D8 := eq_true (show 0 ≤ a by omega)
                            clear H d1 d2 d3 d4 d5 d6 hu1 hu2 hu3 c4 hf2 hf3
                            obtain ⟨z, hz⟩ : ∃ z_, mx u1 (wrap64 (u2 + u3)) = z_ := ⟨_, rfl⟩
                            rw [hz] at H'
                            have HZ := Aside0.mk hz
                            clear hz
                            go_upto_region 17 with (fail)
                            go_big_region
                            go_wp2
                            all_goals
                              have e := HZ.out
                              unfold mx at e
                              first | (rw [if_pos (by omega)] at e) | (rw [if_neg (by omega)] at e)
                              subst e
                              go_roundg k3
                              case measure => have := k3K.out; omega
                              case rel => exact ⟨_, wrap64 (c + 1), by first | rfl | (simp; done), H', ⟨by have := k3K.out; omega⟩, ⟨(HI.out.set _ _).below (below_drew (Below.refl _ _))⟩⟩
                          · rw [if_neg c5] at H
                            exact absurd H (by simp)
                        · rw [if_neg c4] at H
                          have c4b : decide (c < a) = false := decide_eq_false c4
                          have H' := Aside0.mk H
                          clear H c4
                          go_wp2
                          go_loopg [13] k3 (fun kq v13 w' => ∃ (xs : List Int) (c : Int), v13 = .int .i64 c ∧ Aside0 (bvs.q kq a0 a1 l1 xs a b c = some r) ∧ Aside0 (kq ≤ k3) ∧ Aside0 (BvI w w' xs))
                          case atStart => exact ⟨_, 1, rfl, H', ⟨Nat.le_refl _⟩, HI⟩
                          case round =>
                            clear H' HI
                            obtain ⟨xs, c, rfl, HA, k4K, HI⟩ := hrel
                            cases gk with
                            | zero => exact absurd HA.out (by simp [bvs.q])
                            | succ k4 =>
                              have H := HA.out
                              clear HA
                              simp only [bvs.q] at H
                              by_cases c4 : c < b
                              · rw [if_pos c4] at H
                                by_cases c5 : (0 ≤ c ∧ b < 17) ∧ (0 ≤ a ∧ a < 17) ∧ 0 ≤ wrap64 (b - c) ∧ wrap64 (b - c) < 17
                                · rw [if_pos c5] at H
                                  obtain ⟨⟨d1, d2⟩, ⟨d3, d4⟩, d5, d6⟩ := c5
                                  have c4b : decide (c < b) = true := decide_eq_true c4
                                  obtain ⟨hx1, hf1⟩ := HI.out.cell (a.toNat * 17 + b.toNat) (by omega)
                                  obtain ⟨hx2, hf2⟩ := HI.out.cell (a.toNat * 17 + c.toNat) (by omega)
                                  obtain ⟨hx3, hf3⟩ := HI.out.cell (a.toNat * 17 + (wrap64 (b - c)).toNat) (by omega)
                                  obtain ⟨u1, hu1⟩ : ∃ u_, xs.getD (a.toNat * 17 + b.toNat) 0 = u_ := ⟨_, rfl⟩
                                  obtain ⟨u2, hu2⟩ : ∃ u_, xs.getD (a.toNat * 17 + c.toNat) 0 = u_ := ⟨_, rfl⟩
                                  obtain ⟨u3, hu3⟩ : ∃ u_, xs.getD (a.toNat * 17 + (wrap64 (b - c)).toNat) 0 = u_ := ⟨_, rfl⟩
                                  rw [hu1] at hx1
                                  rw [hu2] at hx2
                                  rw [hu3] at hx3
                                  rw [hu1, hu2, hu3] at H
                                  have H' := Aside0.mk H
                                  have D1 := eq_true d1
                                  have D2 := eq_true (show c < 17 by omega)
                                  have D3 := eq_true d3
                                  have D4 := eq_true d4
                                  have D5 := eq_true d5
                                  have D6 := eq_true d6
                                  have D7 := eq_true d2
                                  have D8 := eq_true (show 0 ≤ b by omega)
                                  clear H d1 d2 d3 d4 d5 d6 hu1 hu2 hu3 c4 hf2 hf3
                                  obtain ⟨z, hz⟩ : ∃ z_, mx u1 (wrap64 (u2 + u3)) = z_ := ⟨_, rfl⟩
                                  rw [hz] at H'
                                  have HZ := Aside0.mk hz
                                  clear hz
                                  go_upto_region 21 with (fail)
                                  go_big_region
                                  go_wp2
                                  all_goals
                                    have e := HZ.out
                                    unfold mx at e
                                    first | (rw [if_pos (by omega)] at e) | (rw [if_neg (by omega)] at e)
                                    subst e
                                    go_roundg k4
                                    case measure => have := k4K.out; omega
                                    case rel => exact ⟨_, wrap64 (c + 1), by first | rfl | (simp; done), H', ⟨by have := k4K.out; omega⟩, ⟨(HI.out.set _ _).below (below_drew (Below.refl _ _))⟩⟩
                                · rw [if_neg c5] at H
                                  exact absurd H (by simp)
                              · rw [if_neg c4] at H
                                have c4b : decide (c < b) = false := decide_eq_false c4
                                have H' := Aside0.mk H
                                clear H c4
                                go_wp2
                                go_roundg k4
                                case measure => have := HK1.out; have := HK2.out; have := k3K.out; have := k4K.out; omega
                                case rel => exact ⟨xs, wrap64 (b + 1), by first | rfl | (simp; done), H', ⟨by have := HK1.out; have := HK2.out; have := k3K.out; have := k4K.out; omega⟩, HI⟩
            · rw [if_neg c1] at H
              have c1b : decide (b ≤ a1) = false := decide_eq_false c1
              have H' := Aside0.mk H
              clear H c1
              go_wp2
              go_roundg k1
              case measure => have := HK0.out; have := HK1.out; omega
              case rel => exact ⟨xs, wrap64 (a + 1), by first | rfl | (simp; done), H', ⟨by have := HK0.out; have := HK1.out; omega⟩, HI⟩
      · rw [if_neg c0] at H
        have c0b : decide (a ≤ a0) = false := decide_eq_false c0
        obtain rfl := Option.some.inj H
        clear H c0
        have hsz : (Tryd.prog.info? 44).map (·.size) = some (xs.map (Value.int .i64)).toArray.size := by
          rw [bv_size, bv_zero]
          simp [HI.out.len]
        have hsz2 : (Tryd.zeroCells44).size = (xs.map (Value.int .i64)).toArray.size := by
          rw [bv_zero]
          simp [HI.out.len]
        have hone : (xs.map (Value.int .i64)).toArray.all (·.oneCell') = true := by simp [Value.oneCell']
        go_wp2_with (first
          | (refine wpList_plain (by rfl) fun K_ hK_ => ?_; refine wp_load_row 44 (.tmp 7) rfl (w.heap.size + 1) rfl 44 _ (0, 0) _ HI.out.t Tryd.underlying44 rfl hsz ?_; refine hK_ _ _ ?_)
          | (refine wpList_plain (by rfl) fun K_ hK_ => ?_; refine wp_store_row 44 (.tmp 6) (.tmp 113) rfl w.heap.size (xs.map (Value.int .i64)).toArray rfl rfl 44 _ HI.out.r hsz hsz2 hone ?_; refine hK_ _ _ ?_)
          | fail)
        have hfin := setRow_heap wr w.heap.size _ (xs.map (Value.int .i64)).toArray _ _ HI.out.r
        refine bodyPost_ret (v := .agg (xs.map (Value.int .i64)).toArray) (results_cell_row (fn := Tryd.f23) rfl _ _ w.heap.size 44 _ (0, 0) _ rfl hfin Tryd.underlying44 rfl hsz) rfl ⟨rfl, HI.out.len, bv_setRow HI.out.b _⟩
theorem bv_index (xs : List Int) (hl : xs.length = 289) (a0 : Int) (h0 : 0 ≤ a0) (h1 : a0 < 17) (W : World) : (Instr.index 44 (.agg (xs.map (Value.int .i64)).toArray) (.int .i64 a0)).run Tryd.prog W = .ok (.agg (((xs.drop (a0.toNat * 17)).take 17).map (Value.int .i64)).toArray) W := by
  have hu := Tryd.underlying44
  have hz : (Tryd.prog.info? 43).map (·.size) = some 17 := by kernel_rfl
  have hu2 := Tryd.underlying43
  obtain ⟨i, hi, hs⟩ := Option.map_eq_some_iff.mp hz
  have c : (0 ≤ a0 ∧ a0 < 17) = True := eq_true ⟨h0, h1⟩
  simp [Instr.index, run_underlying hu, asIntOf, c, Sem.run_bind, Sem.run_pure, Result.andThen, sizeOf, typeInfo, hi, hs, part, isAgg, run_underlying hu2, h0, h1]
theorem bv_index2 (xs : List Int) (hl : xs.length = 289) (a0 a1 : Int) (h0 : 0 ≤ a0) (h1 : a0 < 17) (h2 : 0 ≤ a1) (h3 : a1 < 17) (W : World) : (Instr.index 43 (.agg (((xs.drop (a0.toNat * 17)).take 17).map (Value.int .i64)).toArray) (.int .i64 a1)).run Tryd.prog W = .ok (.int .i64 (xs.getD (a0.toNat * 17 + a1.toNat) 0)) W := by
  have hu := Tryd.underlying43
  have hz : (Tryd.prog.info? 3).map (·.size) = some 1 := by kernel_rfl
  have hu2 := Tryd.underlying3
  obtain ⟨i, hi, hs⟩ := Option.map_eq_some_iff.mp hz
  have c : (0 ≤ a1 ∧ a1 < 17) = True := eq_true ⟨h2, h3⟩
  have hlt : a0.toNat * 17 + a1.toNat < xs.length := by omega
  have hcell : ((((xs.drop (a0.toNat * 17)).take 17).map (Value.int .i64)).toArray)[a1.toNat]? = some (.int .i64 (xs.getD (a0.toNat * 17 + a1.toNat) 0)) := by
    rw [List.getElem?_toArray, List.getElem?_map, List.getElem?_take_of_lt (by omega), List.getElem?_drop, List.getElem?_eq_getElem hlt, List.getD_eq_getElem?_getD, List.getElem?_eq_getElem hlt]
    rfl
  have hrun : (part 3 ((((xs.drop (a0.toNat * 17)).take 17).map (Value.int .i64)).toArray) (a1.toNat * 1)).run Tryd.prog W = .ok (.int .i64 (xs.getD (a0.toNat * 17 + a1.toNat) 0)) W := by
    rw [Nat.mul_one]
    unfold part
    rw [Sem.run_bind]
    have ha : (isAgg 3).run Tryd.prog W = .ok false W := by
      unfold isAgg
      rw [Sem.run_bind, run_underlying hu2 W]
      rfl
    rw [ha]
    simp only [Result.andThen, Bool.false_eq_true, if_false]
    rw [hcell]
    rfl
  unfold Instr.index
  simp only [asIntOf, Sem.run_bind, Sem.run_pure, Result.andThen, run_underlying hu, c, if_true]
  simp only [sizeOf, typeInfo, Sem.run_bind, hi, hs]
  simpa [Result.andThen, sizeOf, typeInfo, hi, hs, h2, h3] using hrun
def impl_BestValue.f (k : Nat) (a0 a1 : Int) (l2 : List (List Int)) : Option Int := (impl_isPlate.f a0 a1 l2).bind fun t => if t = true then ((impl_bestValues.f k a0 a1 l2).bind fun xs => if (0 ≤ a0 ∧ a0 < 17) ∧ 0 ≤ a1 ∧ a1 < 17 then some (xs.getD (a0.toNat * 17 + a1.toNat) 0) else none) else some (-1)
theorem impl_BestValue.mono : ∀ a0 a1 a2 k, LeO (impl_BestValue.f k a0 a1 a2) (impl_BestValue.f (k + 1) a0 a1 a2) := by
  intro a0 a1 a2 k
  unfold impl_BestValue.f
  exact LeO.bind (LeO.refl _) (fun _ => LeO.ite (LeO.bind (impl_bestValues.mono _ _ _ _) (fun _ => LeO.refl _)) (LeO.refl _))
set_option maxHeartbeats 8000000 in
set_option maxRecDepth 100000 in
theorem impl_BestValue.calls (k : Nat) (a0 : Int) (a1 : Int) (A2 : Option Addr) (c2 : Nat) (l2 : List (List Int)) (r : Int) (w : World) (hr2 : Kd.C (Kd.slice 3 (Kd.int .i64)) w A2 l2.length l2) (hc2 : l2.length ≤ c2) (h : impl_BestValue.f k a0 a1 l2 = some r) :
    Calls Tryd.prog 7 #[.int .i64 a0, .int .i64 a1, .slice A2 l2.length c2] w fun e w' => e = .returned (.int .i64 r) ∧ Below w.heap.size w w' := by
  obtain ⟨t, ht, h⟩ := Option.bind_eq_some_iff.mp h
  have HR := Aside0.mk hr2
  have HC := Aside0.mk hc2
  have HT := Aside0.mk ht
  have H' := Aside0.mk h
  clear hr2 hc2 ht h
  go_enter Tryd.func7, Tryd.ntmps7
  go_wp2_with fail
  refine (impl_isPlate.calls a0 a1 A2 c2 l2 t w HR.out HC.out HT.out).mono ?_
  rintro e w2 ⟨rfl, hb⟩
  have HB := Aside0.mk hb
  clear hb
  cases t with
  | false =>
    have H := H'.out
    simp only [Bool.false_eq_true, if_false, Option.some.injEq] at H
    subst H
    go_wp2
    go_ret
    exact ⟨rfl, HB.out⟩
  | true =>
    have H := H'.out
    simp only [if_true] at H
    obtain ⟨xs, hxs, H⟩ := Option.bind_eq_some_iff.mp H
    by_cases c1 : (0 ≤ a0 ∧ a0 < 17) ∧ 0 ≤ a1 ∧ a1 < 17
    · rw [if_pos c1] at H
      have HX := Aside0.mk hxs
      have HE := Aside0.mk H
      have HC1 := Aside0.mk c1
      clear hxs H c1 H'
      go_wp2_with fail
      refine (impl_bestValues.calls k a0 a1 A2 c2 l2 xs w2 (Kd.C_below HR.out HB.out) HC.out HX.out).mono ?_
      rintro e w3 ⟨rfl, hlen, hb3⟩
      have HB3 := Aside0.mk (below_step HB.out hb3)
      have HL := Aside0.mk hlen
      clear hb3 hlen
      have C1 : (0 ≤ a0) = True := eq_true HC1.out.1.1
      have C2 : (a0 < 17) = True := eq_true HC1.out.1.2
      have C3 : (0 ≤ a1) = True := eq_true HC1.out.2.1
      have C4 : (a1 < 17) = True := eq_true HC1.out.2.2
      have hi1 := bv_index xs HL.out a0 HC1.out.1.1 HC1.out.1.2
      have hi2 := bv_index2 xs HL.out a0 a1 HC1.out.1.1 HC1.out.1.2 HC1.out.2.1 HC1.out.2.2
      rw [Option.some.inj HE.out] at hi2
      simp only [List.map_take, List.map_drop] at hi1 hi2
      go_wp2
      go_ret
      exact ⟨rfl, HB3.out⟩
    · rw [if_neg c1] at H
      exact absurd H (by simp)

end Go.Proofs.YthjiccclpalobaaDoor.XFnEdgecuts
