/- What functions of the program compute, as plain Lean functions, and that Go's calls come to just that: written by wip/tools/xprint.py for the law FnExactFirstShelf. -/
import Derived.Test.YtkndopemfleedaaXFnExactFirstShelfx0
import Derived.Test.YtkndopemfleedaaXFnExactFirstShelfx3
namespace Go.Proofs.Ytkndopemfleedaa.XFnExactFirstShelf
open Go.RowKit Go.Proofs.YtkndopemfleedaaW.PrintWords Go.Proofs.YtkndopemfleedaaW.PrintLast Go.Proofs.YtkndopemfleedaaW.PrintMore
attribute [local go_sem] max2_int min2_int max_two min_two max_three min_three max_four min_four   -- for this text's walks alone
set_option linter.unusedVariables false
set_option linter.unusedSimpArgs false

/-! ### spec_l15Lay: function 48 -/
mutual
def spec_l15Lay.l0 : Nat → Int → List (List Int) → Bool → List (S40) → List Int → List Int → Int → List Int → Int → Int → Option ((List (S40)) × Int)
  | 0, _, _, _, _, _, _, _, _, _, _ => none
  | k + 1, x0, x1, x2, x8, x9, x10, x11, x24, x25, x26 => if x26 < x25 then (if 0 ≤ x26 then (if x26 < (x24.length : Int) then (if 0 ≤ (rd x24 x26) then (if (rd x24 x26) < (x1.length : Int) then (if 0 < ((rd_L1 x1 (rd x24 x26)).length : Int) then (spec_l15Lay.l1 k x0 x1 x2 x8 x9 x10 x11 (rd x24 x26) (rd (rd_L1 x1 (rd x24 x26)) 0) (-1) x24 x25 x26 (x9.length : Int) 0) else (none)) else (none)) else (none)) else (none)) else (none)) else (some (x8, x11))
def spec_l15Lay.l1 : Nat → Int → List (List Int) → Bool → List (S40) → List Int → List Int → Int → Int → Int → Int → List Int → Int → Int → Int → Int → Option ((List (S40)) × Int)
  | 0, _, _, _, _, _, _, _, _, _, _, _, _, _, _, _ => none
  | k + 1, x0, x1, x2, x8, x9, x10, x11, x13, x14, x15, x24, x25, x26, x37, x38 => if x38 < x37 then (if 0 ≤ x38 then (if x38 < (x9.length : Int) then (if x15 < 0 then (if (wrap64 ((rd x9 x38) + x14)) ≤ x0 then (if x2 = true then (if x38 = (wrap64 ((x9.length : Int) - 1)) then (spec_l15Lay.l1 k x0 x1 x2 x8 x9 x10 x11 x13 x14 x38 x24 x25 x26 x37 (wrap64 (x38 + 1))) else (spec_l15Lay.l1 k x0 x1 x2 x8 x9 x10 x11 x13 x14 x15 x24 x25 x26 x37 (wrap64 (x38 + 1)))) else (spec_l15Lay.l1 k x0 x1 x2 x8 x9 x10 x11 x13 x14 x38 x24 x25 x26 x37 (wrap64 (x38 + 1)))) else (spec_l15Lay.l1 k x0 x1 x2 x8 x9 x10 x11 x13 x14 x15 x24 x25 x26 x37 (wrap64 (x38 + 1)))) else (spec_l15Lay.l1 k x0 x1 x2 x8 x9 x10 x11 x13 x14 x15 x24 x25 x26 x37 (wrap64 (x38 + 1)))) else (none)) else (none)) else (if x15 < 0 then (if x9.length < 17592186044416 then ((some (x9 ++ [0] : List Int)).bind fun y192 => (if x10.length < 17592186044416 then ((some (x10 ++ [x11] : List Int)).bind fun y195 => (if 0 ≤ x13 then (if x13 < (x1.length : Int) then (if 1 < ((rd_L1 x1 x13).length : Int) then (if 0 ≤ (x9.length : Int) then (if (x9.length : Int) < (y192.length : Int) then (if (x9.length : Int) < (y195.length : Int) then (if x13 < (x8.length : Int) then (spec_l15Lay.l0 k x0 x1 x2 (x8.set (x13 : Int).toNat (⟨rd y192 (x9.length : Int), rd y195 (x9.length : Int)⟩ : S40)) (y192.set ((x9.length : Int) : Int).toNat (wrap64 ((rd y192 (x9.length : Int)) + x14))) y195 (wrap64 (x11 + (rd (rd_L1 x1 x13) 1))) x24 x25 (wrap64 (x26 + 1))) else (none)) else (none)) else (none)) else (none)) else (none)) else (none)) else (none))) else (none))) else (none)) else (if 0 ≤ x15 then (if x15 < (x9.length : Int) then (if x15 < (x10.length : Int) then (if 0 ≤ x13 then (if x13 < (x8.length : Int) then (spec_l15Lay.l0 k x0 x1 x2 (x8.set (x13 : Int).toNat (⟨rd x9 x15, rd x10 x15⟩ : S40)) (x9.set (x15 : Int).toNat (wrap64 ((rd x9 x15) + x14))) x10 x11 x24 x25 (wrap64 (x26 + 1))) else (none)) else (none)) else (none)) else (none)) else (none)))
end
def spec_l15Lay.f (k : Nat) (a0 : Int) (l1 : List (List Int)) (a2 : Bool) : Option ((List (S40)) × Int) := if 0 ≤ (l1.length : Int) then (if ((l1.length : Int) : Int).toNat ≤ 17592186044416 then ((spec_l15Order.f k l1).bind fun t185 => (spec_l15Lay.l0 k a0 l1 a2 (List.replicate ((l1.length : Int) : Int).toNat z40) (([] : List Int)) (([] : List Int)) 0 t185 (t185.length : Int) 0)) else (none)) else (none)
theorem spec_l15Lay.mono_l : ∀ k, (∀ y0 y1 y2 y3 y4 y5 y6 y7 y8 y9, LeO (spec_l15Lay.l0 k y0 y1 y2 y3 y4 y5 y6 y7 y8 y9) (spec_l15Lay.l0 (k + 1) y0 y1 y2 y3 y4 y5 y6 y7 y8 y9)) ∧ (∀ y0 y1 y2 y3 y4 y5 y6 y7 y8 y9 y10 y11 y12 y13 y14, LeO (spec_l15Lay.l1 k y0 y1 y2 y3 y4 y5 y6 y7 y8 y9 y10 y11 y12 y13 y14) (spec_l15Lay.l1 (k + 1) y0 y1 y2 y3 y4 y5 y6 y7 y8 y9 y10 y11 y12 y13 y14))
  | 0 => ⟨fun _ _ _ _ _ _ _ _ _ _ r h => by simp [spec_l15Lay.l0] at h, fun _ _ _ _ _ _ _ _ _ _ _ _ _ _ _ r h => by simp [spec_l15Lay.l1] at h⟩
  | k + 1 => by
    obtain ⟨ih0, ih1⟩ := spec_l15Lay.mono_l k
    refine ⟨?_, ?_⟩
    · intro y0 y1 y2 y3 y4 y5 y6 y7 y8 y9
      unfold spec_l15Lay.l0
      repeat' first
      | (with_reducible exact ih0 _ _ _ _ _ _ _ _ _ _)
      | (with_reducible exact ih1 _ _ _ _ _ _ _ _ _ _ _ _ _ _ _)
      | (with_reducible exact spec_l15Order.mono _ _)
      | (with_reducible exact LeO.refl _)
      | (with_reducible exact LeO.none _)
      | (with_reducible refine LeO.ite ?_ ?_)
      | (with_reducible refine LeO.bind ?_ (fun _ => ?_))
      | exact ih0 _ _ _ _ _ _ _ _ _ _
      | exact ih1 _ _ _ _ _ _ _ _ _ _ _ _ _ _ _
      | exact spec_l15Order.mono _ _
      | exact LeO.none _
      | refine LeO.ite ?_ ?_
      | refine LeO.bind ?_ (fun _ => ?_)
    · intro y0 y1 y2 y3 y4 y5 y6 y7 y8 y9 y10 y11 y12 y13 y14
      unfold spec_l15Lay.l1
      repeat' first
      | (with_reducible exact ih0 _ _ _ _ _ _ _ _ _ _)
      | (with_reducible exact ih1 _ _ _ _ _ _ _ _ _ _ _ _ _ _ _)
      | (with_reducible exact spec_l15Order.mono _ _)
      | (with_reducible exact LeO.refl _)
      | (with_reducible exact LeO.none _)
      | (with_reducible refine LeO.ite ?_ ?_)
      | (with_reducible refine LeO.bind ?_ (fun _ => ?_))
      | exact ih0 _ _ _ _ _ _ _ _ _ _
      | exact ih1 _ _ _ _ _ _ _ _ _ _ _ _ _ _ _
      | exact spec_l15Order.mono _ _
      | exact LeO.none _
      | refine LeO.ite ?_ ?_
      | refine LeO.bind ?_ (fun _ => ?_)
theorem spec_l15Lay.mono : ∀ a0 a1 a2 k, LeO (spec_l15Lay.f k a0 a1 a2) (spec_l15Lay.f (k + 1) a0 a1 a2) := by
  intro a0 a1 a2 k
  obtain ⟨ih0, ih1⟩ := spec_l15Lay.mono_l k
  unfold spec_l15Lay.f
  repeat' first
      | (with_reducible exact ih0 _ _ _ _ _ _ _ _ _ _)
      | (with_reducible exact ih1 _ _ _ _ _ _ _ _ _ _ _ _ _ _ _)
      | (with_reducible exact spec_l15Order.mono _ _)
      | (with_reducible exact LeO.refl _)
      | (with_reducible exact LeO.none _)
      | (with_reducible refine LeO.ite ?_ ?_)
      | (with_reducible refine LeO.bind ?_ (fun _ => ?_))
      | exact ih0 _ _ _ _ _ _ _ _ _ _
      | exact ih1 _ _ _ _ _ _ _ _ _ _ _ _ _ _ _
      | exact spec_l15Order.mono _ _
      | exact LeO.none _
      | refine LeO.ite ?_ ?_
      | refine LeO.bind ?_ (fun _ => ?_)
def spec_l15Lay.T21 : Bool × List (List Nat × List Nat) := (true, [([], []), ([], []), ([], []), ([], []), ([2, 3], [2, 3]), ([4], [4]), ([], []), ([], []), ([6, 7], [6, 7]), ([8], [8]), ([5, 9], [5, 9]), ([0, 1, 0, 1, 2, 3, 4, 5, 6, 7, 8, 9, 10], [0, 1]), ([11, 10, 0, 1, 2, 3, 4, 5, 6, 7, 8, 9, 10], [10, 11])])
def spec_l15Lay.B21 : List Nat := [0, 0, 0, 0, 12, 28, 0, 0, 192, 448, 1020, 2047, 4095]
theorem spec_l15Lay.tab21 : rtab .any (opsOf Try.f48 21) = spec_l15Lay.T21 := by kernel_rfl
theorem spec_l15Lay.bits21 : waitsOk spec_l15Lay.T21.2 spec_l15Lay.B21 = true := by kernel_rfl
set_option maxHeartbeats 8000000 in
set_option maxRecDepth 100000 in
theorem spec_l15Lay.calls (k : Nat) (a0 : Int) (A1 : Option Addr) (c1 : Nat) (l1 : List (List Int)) (a2 : Bool) (r1 : List (S40)) (r2 : Int) (w : World) (hr1 : Kd.C (Kd.slice 3 (Kd.int .i64)) w A1 l1.length l1) (hc1 : l1.length ≤ c1) (h : spec_l15Lay.f k a0 l1 a2 = some (r1, r2)) :
    Calls Try.prog 48 #[.int .i64 a0, .slice A1 l1.length c1, .bool a2] w fun e w' => ∃ v0_ : Value, e = .returned (.tuple #[v0_, .int .i64 r2]) ∧ Kd.R k40 40 w' w.heap.size (fun _ => True) v0_ r1 ∧ Below w.heap.size w w' := by
  have hu40 := Try.underlying40
  have HR1 := Aside0.mk hr1
  have HC1 := Aside0.mk hc1
  clear hr1 hc1
  have HB := Aside0.mk (Below.refl w.heap.size w)
  have H : (if 0 ≤ (l1.length : Int) then (if ((l1.length : Int) : Int).toNat ≤ 17592186044416 then ((spec_l15Order.f k l1).bind fun t185 => (spec_l15Lay.l0 k a0 l1 a2 (List.replicate ((l1.length : Int) : Int).toNat z40) (([] : List Int)) (([] : List Int)) 0 t185 (t185.length : Int) 0)) else (none)) else (none)) = some (r1, r2) := h
  clear h
  by_cases c4 : 0 ≤ (l1.length : Int)
  · rw [if_pos c4] at H
    have c4b0 := eq_true c4
    have c4b1 : decide (0 ≤ (l1.length : Int)) = true := decide_eq_true c4
    clear c4
    by_cases c5 : ((l1.length : Int) : Int).toNat ≤ 17592186044416
    · rw [if_pos c5] at H
      have c5b0 := eq_true c5
      have c5b1 : decide (((l1.length : Int) : Int).toNat ≤ 17592186044416) = true := decide_eq_true c5
      clear c5
      obtain ⟨y176, hy176⟩ : ∃ y_ : List (S40), y_ = (List.replicate ((l1.length : Int) : Int).toNat z40) := ⟨_, rfl⟩
      replace H : ((spec_l15Order.f k l1).bind fun t185 => (spec_l15Lay.l0 k a0 l1 a2 y176 (([] : List Int)) (([] : List Int)) 0 t185 (t185.length : Int) 0)) = some (r1, r2) := by first | (rw [hy176]; with_reducible exact H) | (have H2_ := (Option.bind_some _ _).symm.trans H; rw [hy176]; with_reducible exact H2_) | (have H2_ := (Option.bind_some _ _).symm.trans H; with_reducible exact H2_) | with_reducible exact H | (rw [hy176]; exact H) | exact H
      have Ny176 := Aside0.mk hy176
      clear hy176
      obtain ⟨y179, hy179⟩ : ∃ y_ : List Int, y_ = (([] : List Int)) := ⟨_, rfl⟩
      replace H : ((spec_l15Order.f k l1).bind fun t185 => (spec_l15Lay.l0 k a0 l1 a2 y176 y179 (([] : List Int)) 0 t185 (t185.length : Int) 0)) = some (r1, r2) := by first | (rw [hy179]; with_reducible exact H) | (have H2_ := (Option.bind_some _ _).symm.trans H; rw [hy179]; with_reducible exact H2_) | (have H2_ := (Option.bind_some _ _).symm.trans H; with_reducible exact H2_) | with_reducible exact H | (rw [hy179]; exact H) | exact H
      have Ny179 := Aside0.mk hy179
      clear hy179
      obtain ⟨y182, hy182⟩ : ∃ y_ : List Int, y_ = (([] : List Int)) := ⟨_, rfl⟩
      replace H : ((spec_l15Order.f k l1).bind fun t185 => (spec_l15Lay.l0 k a0 l1 a2 y176 y179 y182 0 t185 (t185.length : Int) 0)) = some (r1, r2) := by first | (rw [hy182]; with_reducible exact H) | (have H2_ := (Option.bind_some _ _).symm.trans H; rw [hy182]; with_reducible exact H2_) | (have H2_ := (Option.bind_some _ _).symm.trans H; with_reducible exact H2_) | with_reducible exact H | (rw [hy182]; exact H) | exact H
      have Ny182 := Aside0.mk hy182
      clear hy182
      replace H := Option.bind_eq_some_iff.mp H
      obtain ⟨t185, A60, H⟩ := H
      replace H : (spec_l15Lay.l0 k a0 l1 a2 y176 y179 y182 0 t185 (t185.length : Int) 0) = some (r1, r2) := H
      have A6 := Aside0.mk A60
      clear A60
      have H' := Aside0.mk H
      clear H
      go_enter Try.func48, Try.ntmps48
      go_wp2_with (first | ((with_reducible refine gate_dst (N := 20) rfl ?_); (try (refine gate_guard (by rfl) ?_; dsimp only)); refine Kd.R_make k40 _ 40 rfl (N := 20) rfl 32 _ _ rfl (l1.length : Int) rfl rfl Try.underlying32 (.agg #[(.int .i64 0), (.int .i64 0)]) 16 info40 rfl (by decide) (by omega) z40 (ok := fun _ => True) (okp := fun _ => True) (k40_mkM _ _ _ z40 ) (fun _ hk => hk) trivial (of_decide_eq_true (by first | (with_reducible assumption) | assumption)) (Nat.le_trans (Nat.mul_le_mul_right _ (of_decide_eq_true (by first | (with_reducible assumption) | assumption) : (l1.length : Int).toNat ≤ 17592186044416)) (by omega)) (Below.refl _ _) (Nat.le_refl _) ?_; intro v177 w7 ho8 hb hg_ hnew_; clear hg_ hnew_; (first | rw [← Ny176.out] at ho8 | (simp only [Int.reduceToNat] at ho8; rw [← Ny176.out] at ho8)); have n0_ := Aside0.mk (Kd.R_lower ho8 (below_size (by repeat (first | (with_reducible first | exact HB.out | apply below_alloc | apply pw_below_drewN | apply below_drew1) | exact HB.out)))); have n1_ := Aside0.mk (below_step (by repeat (first | (with_reducible first | exact HB.out | apply below_alloc | apply pw_below_drewN | apply below_drew1) | exact HB.out)) hb); clear HB; have HO178 := n0_; have HB := n1_; clear n0_ n1_; clear hb ho8) | ((with_reducible refine gate_dst (N := 21) rfl ?_); (try (refine gate_guard (by rfl) ?_; dsimp only)); refine Kd.R_lit (Kd.int .i64) _ 3 ?hg (N := 21) ?hd (xs := ([] : List Int)) (inner := []) (ok := fun _ => True) (okp := fun _ => True) ?hr ?hp (fun _ hk => hk) trivial (Below.refl _ _) (Nat.le_refl _) (by simp) ?_; (case hd => rfl); (case hg => rfl); (case hr => first | (go_simp; done) | (go_simp; rfl)); (case hp => exact (Reps.none _ _)); intro v180 w9 ho10 hb hg_ hnew_; clear hg_ hnew_; (first | rw [← Ny179.out] at ho10 | (simp only [Int.reduceToNat] at ho10; rw [← Ny179.out] at ho10)); have n0_ := Aside0.mk (Kd.R_below (by (with_reducible repeat (first | apply Kd.R_alloc | apply Kd.R_drewN | apply Kd.R_drew)); exact HO178.out) hb); have n1_ := Aside0.mk (Kd.R_lower ho10 (below_size (by repeat (first | (with_reducible first | exact HB.out | apply below_alloc | apply pw_below_drewN | apply below_drew1) | exact HB.out)))); have n2_ := Aside0.mk (below_step (by repeat (first | (with_reducible first | exact HB.out | apply below_alloc | apply pw_below_drewN | apply below_drew1) | exact HB.out)) hb); clear HO178; clear HB; have HO178 := n0_; have HO181 := n1_; have HB := n2_; clear n0_ n1_ n2_; clear hb ho10) | ((with_reducible refine gate_dst (N := 22) rfl ?_); (try (refine gate_guard (by rfl) ?_; dsimp only)); refine Kd.R_lit (Kd.int .i64) _ 3 ?hg (N := 22) ?hd (xs := ([] : List Int)) (inner := []) (ok := fun _ => True) (okp := fun _ => True) ?hr ?hp (fun _ hk => hk) trivial (Below.refl _ _) (Nat.le_refl _) (by simp) ?_; (case hd => rfl); (case hg => rfl); (case hr => first | (go_simp; done) | (go_simp; rfl)); (case hp => exact (Reps.none _ _)); intro v183 w11 ho12 hb hg_ hnew_; clear hg_ hnew_; (first | rw [← Ny182.out] at ho12 | (simp only [Int.reduceToNat] at ho12; rw [← Ny182.out] at ho12)); have n0_ := Aside0.mk (Kd.R_below (by (with_reducible repeat (first | apply Kd.R_alloc | apply Kd.R_drewN | apply Kd.R_drew)); exact HO178.out) hb); have n1_ := Aside0.mk (Kd.R_elder' (by (with_reducible repeat (first | apply Kd.R_alloc | apply Kd.R_drewN | apply Kd.R_drew)); exact HO181.out) (Kd.R_base ho12) hb); have n2_ := Aside0.mk (Kd.R_lower (Kd.R_new' ho12 (Kd.R_lt (by (with_reducible repeat (first | apply Kd.R_alloc | apply Kd.R_drewN | apply Kd.R_drew)); exact HO181.out))) (below_size (by repeat (first | (with_reducible first | exact HB.out | apply below_alloc | apply pw_below_drewN | apply below_drew1) | exact HB.out)))); have n3_ := Aside0.mk (below_step (by repeat (first | (with_reducible first | exact HB.out | apply below_alloc | apply pw_below_drewN | apply below_drew1) | exact HB.out)) hb); clear HO178; clear HO181; clear HB; have HO178 := n0_; have HO181 := n1_; have HO184 := n2_; have HB := n3_; clear n0_ n1_ n2_ n3_; clear hb ho12) | ((with_reducible refine gate_callee (f := 82) rfl ?_); refine goesL_ (some 24) rfl rfl Try.func82 (by kernel_rfl) rfl #[.slice A1 l1.length c1] rfl (by (try simp only [List.map_toArray, List.map_cons, List.map_nil]); first | done | rfl | (simp only [List.length_drop, List.length_take]; rfl)) ?_; (with_reducible refine (spec_l15Order.calls k _ _ l1 t185 _ ?side1 ?side2 A6.out).mono ?_); (case side1 => repeat (first | exact (Kd.C_below HR1.out HB.out) | (with_reducible refine Kd.C_alloc ?_ _) | (with_reducible refine Kd.C_drewN ?_ _) | (with_reducible refine Kd.C_drew ?_))); (case side2 => exact HC1.out); rintro e w13 ⟨v186, rfl, ho0, hb⟩; refine ⟨_, rfl, ?_⟩; have n0_ := Aside0.mk (Kd.R_below (by (with_reducible repeat (first | apply Kd.R_alloc | apply Kd.R_drewN | apply Kd.R_drew)); exact HO178.out) hb); have n1_ := Aside0.mk (Kd.R_elder' (by (with_reducible repeat (first | apply Kd.R_alloc | apply Kd.R_drewN | apply Kd.R_drew)); exact HO181.out) (Kd.R_base ho0) hb); have n2_ := Aside0.mk (Kd.R_elder' (by (with_reducible repeat (first | apply Kd.R_alloc | apply Kd.R_drewN | apply Kd.R_drew)); exact HO184.out) (Kd.R_base ho0) hb); have n3_ := Aside0.mk (Kd.R_lower (Kd.R_new' (Kd.R_new' ho0 (Kd.R_lt (by (with_reducible repeat (first | apply Kd.R_alloc | apply Kd.R_drewN | apply Kd.R_drew)); exact HO181.out))) (Kd.R_lt (by (with_reducible repeat (first | apply Kd.R_alloc | apply Kd.R_drewN | apply Kd.R_drew)); exact HO184.out))) (below_size (by repeat (first | (with_reducible first | exact HB.out | apply below_alloc | apply pw_below_drewN | apply below_drew1) | exact HB.out)))); have n4_ := Aside0.mk (below_step (by repeat (first | (with_reducible first | exact HB.out | apply below_alloc | apply pw_below_drewN | apply below_drew1) | exact HB.out)) hb); clear HO178; clear HO181; clear HO184; clear HB; have HO178 := n0_; have HO181 := n1_; have HO184 := n2_; have HO187 := n3_; have HB := n4_; clear n0_ n1_ n2_ n3_ n4_; (try clear hb); (try clear hb2); (try clear hk); (try clear hi); (try clear ho0); obtain ⟨Ao14, co14, eo14⟩ := Kd.R_slice HO187.out; subst eo14))
      go_loopg [9, 10, 11, 26] k (fun kq v9 v10 v11 v26 w' => ∃ (x8_1 : List (S40)) (x9_1 : List Int) (x10_1 : List Int) (x11_1 : Int) (x24_1 : List Int) (x26_1 : Int), v11 = .int .i64 x11_1 ∧ v26 = .int .i64 x26_1 ∧ Aside0 (spec_l15Lay.l0 kq a0 l1 a2 x8_1 x9_1 x10_1 x11_1 x24_1 (t185.length : Int) x26_1 = some (r1, r2)) ∧ Aside0 (kq ≤ k) ∧ Aside0 (Kd.R k40 40 w' w.heap.size (fun _ => True) v177 x8_1) ∧ Aside0 (Kd.R (Kd.int .i64) 3 w' w.heap.size (fun k_ => some k_ ≠ (v10 : Value).ownBlock ∧ some k_ ≠ ((.slice Ao14 t185.length co14) : Value).ownBlock) v9 x9_1) ∧ Aside0 (Kd.R (Kd.int .i64) 3 w' w.heap.size (fun k_ => some k_ ≠ (v9 : Value).ownBlock ∧ some k_ ≠ ((.slice Ao14 t185.length co14) : Value).ownBlock) v10 x10_1) ∧ Aside0 (Kd.R (Kd.int .i64) 3 w' w.heap.size (fun k_ => some k_ ≠ (v9 : Value).ownBlock ∧ some k_ ≠ (v10 : Value).ownBlock) (.slice Ao14 t185.length co14) x24_1) ∧ Aside0 (Below w.heap.size w w'))
      case atStart => exact ⟨(y176), (y179), (y182), (0), (t185), (0), (by first | rfl | (simp; done) | (simp [*]; done)), (by first | rfl | (simp; done) | (simp [*]; done)), H', ⟨Nat.le_refl _⟩, ⟨by (with_reducible repeat (first | apply Kd.R_alloc | apply Kd.R_drewN | apply Kd.R_drew)); exact HO178.out⟩, ⟨by (with_reducible repeat (first | apply Kd.R_alloc | apply Kd.R_drewN | apply Kd.R_drew)); exact Kd.R_mono HO181.out (fun _ hk => ⟨hk.1.2, hk.2⟩)⟩, ⟨by (with_reducible repeat (first | apply Kd.R_alloc | apply Kd.R_drewN | apply Kd.R_drew)); exact Kd.R_mono HO184.out (fun _ hk => ⟨hk.1.2, hk.2⟩)⟩, ⟨by (with_reducible repeat (first | apply Kd.R_alloc | apply Kd.R_drewN | apply Kd.R_drew)); exact Kd.R_mono HO187.out (fun _ hk => ⟨hk.1.2, hk.2⟩)⟩, ⟨by repeat (first | (with_reducible first | exact HB.out | apply below_alloc | apply pw_below_drewN | apply below_drew1) | exact HB.out)⟩⟩
      case round =>
        clear H'
        try clear c1
        try clear p2
        try clear c4
        try clear c4b0
        try clear c4b1
        try clear c5
        try clear c5b0
        try clear c5b1
        try clear c8
        obtain ⟨x8_1, x9_1, x10_1, x11_1, x24_1, x26_1, rfl, rfl, HA, HK1, HO_8, HO_9, HO_10, HO_24, HB⟩ := hrel
        have hl24_1 := (Kd.R_reads' HO_24.out).1
        rw [hl24_1] at HO_24
        (try simp only [hl24_1])
        (try simp only [hl24_1] at HO_8)
        (try simp only [hl24_1] at HO_9)
        (try simp only [hl24_1] at HO_10)
        cases gk with
        | zero => exact absurd HA.out (by simp [spec_l15Lay.l0])
        | succ k1 =>
          have H := HA.out
          clear HA
          simp only [spec_l15Lay.l0] at H
          by_cases c15 : x26_1 < (t185.length : Int)
          · rw [if_pos c15] at H
            have c15b0 : decide (x26_1 < (t185.length : Int)) = true := decide_eq_true c15
            (try (have c15b0s := c15b0; simp only [hl24_1] at c15b0s))
            clear c15
            by_cases c16 : 0 ≤ x26_1
            · rw [if_pos c16] at H
              have c16b0 : decide (0 ≤ x26_1) = true := decide_eq_true c16
              clear c16
              by_cases c17 : x26_1 < (x24_1.length : Int)
              · rw [if_pos c17] at H
                have c17b0 : decide (x26_1 < (x24_1.length : Int)) = true := decide_eq_true c17
                (try (have c17b0s := c17b0; simp only [hl24_1] at c17b0s))
                clear c17
                by_cases c18 : 0 ≤ (rd x24_1 x26_1)
                · rw [if_pos c18] at H
                  have c18b0 : decide (0 ≤ (rd x24_1 x26_1)) = true := decide_eq_true c18
                  clear c18
                  by_cases c19 : (rd x24_1 x26_1) < (l1.length : Int)
                  · rw [if_pos c19] at H
                    have c19b0 : decide ((rd x24_1 x26_1) < (l1.length : Int)) = true := decide_eq_true c19
                    (try (have c19b0s := c19b0; simp only [hl24_1] at c19b0s))
                    clear c19
                    by_cases c20 : 0 < ((rd_L1 l1 (rd x24_1 x26_1)).length : Int)
                    · rw [if_pos c20] at H
                      have c20b0 : decide (0 < ((rd_L1 l1 (rd x24_1 x26_1)).length : Int)) = true := decide_eq_true c20
                      (try (have c20b0s := c20b0; simp only [hl24_1] at c20b0s))
                      have c20b1 : decide (0 < (rd_L1 l1 (rd x24_1 x26_1)).length) = true := decide_eq_true (by omega)
                      (try (have c20b1s := c20b1; simp only [hl24_1] at c20b1s))
                      clear c20
                      have H' := Aside0.mk H
                      clear H
                      have p188 : 0 ≤ (x26_1 : Int) := of_decide_eq_true (by first | (with_reducible assumption) | assumption)
                      have q188 : x26_1 < (x24_1.length : Int) := of_decide_eq_true (by first | (with_reducible assumption) | assumption)
                      obtain ⟨ad188, e188, hx188_0⟩ := Kd.at_int (Kd.R_reads' HO_24.out).2.2 x26_1 p188 q188
                      cases e188
                      replace p188 := eq_true p188
                      replace q188 := eq_true q188
                      have p189 : 0 ≤ ((rd x24_1 x26_1) : Int) := of_decide_eq_true (by first | (with_reducible assumption) | assumption)
                      have q189 : (rd x24_1 x26_1) < (l1.length : Int) := of_decide_eq_true (by first | (with_reducible assumption) | assumption)
                      obtain ⟨ad189, A189_0, c189_0, e189, hx189_0, hl189_0, hi189_0⟩ := at_L1 HR1.out (rd x24_1 x26_1) p189 q189
                      cases e189
                      (try replace hx189_0 := (HB.out.cell (World.block_lt_of_cell? w _ hx189_0)).trans hx189_0)
                      have HR189_0 := Aside0.mk hi189_0
                      have HC189_0 := Aside0.mk hl189_0
                      clear hi189_0 hl189_0
                      replace p189 := eq_true p189
                      replace q189 := eq_true q189
                      have p190 : 0 ≤ (0 : Int) := (by omega)
                      have q190 : 0 < ((rd_L1 l1 (rd x24_1 x26_1)).length : Int) := of_decide_eq_true (by first | (with_reducible assumption) | assumption)
                      obtain ⟨ad190, e190, hx190_0⟩ := Kd.at_int HR189_0.out 0 p190 q190
                      cases e190
                      have qi190 : (0 < (rd_L1 l1 (rd x24_1 x26_1)).length) = True := eq_true (by omega)
                      (try rw [show ((0 : Int)).toNat = 0 from rfl] at hx190_0)
                      (try rw [Addr.add_zero'] at hx190_0)
                      (try replace hx190_0 := (HB.out.cell (World.block_lt_of_cell? w _ hx190_0)).trans hx190_0)
                      replace p190 := eq_true p190
                      replace q190 := eq_true q190
                      obtain ⟨Ao21, co21, eo21⟩ := Kd.R_slice HO_9.out
                      subst eo21
                      go_wp2
                      go_loopg [15, 38] k1 (fun kq v15 v38 w' => ∃ (x15_2 : Int) (x38_2 : Int), v15 = .int .i64 x15_2 ∧ v38 = .int .i64 x38_2 ∧ Aside0 (spec_l15Lay.l1 kq a0 l1 a2 x8_1 x9_1 x10_1 x11_1 (rd x24_1 x26_1) (rd (rd_L1 l1 (rd x24_1 x26_1)) 0) x15_2 x24_1 (t185.length : Int) x26_1 (x9_1.length : Int) x38_2 = some (r1, r2)) ∧ Aside0 (kq ≤ k1) ∧ Aside0 (Kd.R k40 40 w' w.heap.size (fun _ => True) v177 x8_1) ∧ Aside0 (Kd.R (Kd.int .i64) 3 w' w.heap.size (fun k_ => some k_ ≠ (u10 : Value).ownBlock ∧ some k_ ≠ ((.slice (some ad188) x24_1.length co14) : Value).ownBlock) (.slice Ao21 x9_1.length co21) x9_1) ∧ Aside0 (Kd.R (Kd.int .i64) 3 w' w.heap.size (fun k_ => some k_ ≠ ((.slice Ao21 x9_1.length co21) : Value).ownBlock ∧ some k_ ≠ ((.slice (some ad188) x24_1.length co14) : Value).ownBlock) u10 x10_1) ∧ Aside0 (Kd.R (Kd.int .i64) 3 w' w.heap.size (fun k_ => some k_ ≠ ((.slice Ao21 x9_1.length co21) : Value).ownBlock ∧ some k_ ≠ (u10 : Value).ownBlock) (.slice (some ad188) x24_1.length co14) x24_1) ∧ Aside0 (Below w.heap.size w w'))
                      case atStart => exact ⟨((-1)), (0), (by first | rfl | (simp; done) | (simp [*]; done)), (by first | rfl | (simp; done) | (simp [*]; done)), H', ⟨Nat.le_refl _⟩, ⟨by (try simp only [hl24_1]); (with_reducible repeat (first | apply Kd.R_alloc | apply Kd.R_drewN | apply Kd.R_drew)); exact HO_8.out⟩, ⟨by (try simp only [hl24_1]); (with_reducible repeat (first | apply Kd.R_alloc | apply Kd.R_drewN | apply Kd.R_drew)); exact HO_9.out⟩, ⟨by (try simp only [hl24_1]); (with_reducible repeat (first | apply Kd.R_alloc | apply Kd.R_drewN | apply Kd.R_drew)); exact HO_10.out⟩, ⟨by (try simp only [hl24_1]); (with_reducible repeat (first | apply Kd.R_alloc | apply Kd.R_drewN | apply Kd.R_drew)); exact HO_24.out⟩, ⟨by repeat (first | (with_reducible first | exact HB.out | apply below_alloc | apply pw_below_drewN | apply below_drew1) | exact HB.out)⟩⟩
                      case round =>
                        clear H'
                        try clear c1
                        try clear p1
                        try clear q1
                        try clear hx1
                        try clear qi1
                        try clear c2
                        try clear p2
                        try clear c4
                        try clear c4b0
                        try clear c4b1
                        try clear c5
                        try clear c5b0
                        try clear c5b1
                        try clear c8
                        try clear c15
                        try clear c15b0
                        try clear c16
                        try clear c16b0
                        try clear c17
                        try clear c17b0
                        try clear c18
                        try clear c18b0
                        try clear p18
                        try clear q18
                        try clear hx18
                        try clear c19
                        try clear c19b0
                        try clear p19
                        try clear q19
                        try clear hx19
                        try clear qi19
                        try clear c20
                        try clear c20b0
                        try clear c20b1
                        try clear hx188_0
                        try clear hx189_0
                        try clear hx190_0
                        try clear p188
                        try clear p189
                        try clear p190
                        try clear p2
                        try clear q188
                        try clear q189
                        try clear q190
                        obtain ⟨x15_2, x38_2, rfl, rfl, HA, HK2, HO_8, HO_9, HO_10, HO_24, HB⟩ := hrel
                        cases gk with
                        | zero => exact absurd HA.out (by simp [spec_l15Lay.l1])
                        | succ k2 =>
                          have H := HA.out
                          clear HA
                          simp only [spec_l15Lay.l1] at H
                          by_cases c22 : x38_2 < (x9_1.length : Int)
                          · rw [if_pos c22] at H
                            have c22b0 : decide (x38_2 < (x9_1.length : Int)) = true := decide_eq_true c22
                            (try (have c22b0s := c22b0; simp only [hl24_1] at c22b0s))
                            clear c22
                            by_cases c23 : 0 ≤ x38_2
                            · rw [if_pos c23] at H
                              have c23b0 : decide (0 ≤ x38_2) = true := decide_eq_true c23
                              clear c23
                              by_cases c24 : x38_2 < (x9_1.length : Int)
                              · rw [if_pos c24] at H
                                have c24b0 : decide (x38_2 < (x9_1.length : Int)) = true := decide_eq_true c24
                                (try (have c24b0s := c24b0; simp only [hl24_1] at c24b0s))
                                clear c24
                                by_cases c25 : x15_2 < 0
                                · rw [if_pos c25] at H
                                  have c25b0 : decide (x15_2 < 0) = true := decide_eq_true c25
                                  clear c25
                                  by_cases c26 : (wrap64 ((rd x9_1 x38_2) + (rd (rd_L1 l1 (rd x24_1 x26_1)) 0))) ≤ a0
                                  · rw [if_pos c26] at H
                                    have c26b0 : decide ((wrap64 ((rd x9_1 x38_2) + (rd (rd_L1 l1 (rd x24_1 x26_1)) 0))) ≤ a0) = true := decide_eq_true c26
                                    clear c26
                                    by_cases c27 : a2 = true
                                    · subst c27
                                      have H1 : (if x38_2 = (wrap64 ((x9_1.length : Int) - 1)) then (spec_l15Lay.l1 k2 a0 l1 true x8_1 x9_1 x10_1 x11_1 (rd x24_1 x26_1) (rd (rd_L1 l1 (rd x24_1 x26_1)) 0) x38_2 x24_1 (t185.length : Int) x26_1 (x9_1.length : Int) (wrap64 (x38_2 + 1))) else (spec_l15Lay.l1 k2 a0 l1 true x8_1 x9_1 x10_1 x11_1 (rd x24_1 x26_1) (rd (rd_L1 l1 (rd x24_1 x26_1)) 0) x15_2 x24_1 (t185.length : Int) x26_1 (x9_1.length : Int) (wrap64 (x38_2 + 1)))) = some (r1, r2) := by rw [if_pos rfl] at H; exact H
                                      clear H
                                      have H := H1
                                      clear H1
                                      by_cases c28 : x38_2 = (wrap64 ((x9_1.length : Int) - 1))
                                      · rw [if_pos c28] at H
                                        have c28b0 : (x38_2 == (wrap64 ((x9_1.length : Int) - 1))) = true := beq_iff_eq.mpr c28
                                        (try (have c28b0s := c28b0; simp only [hl24_1] at c28b0s))
                                        have c28b1 : (x38_2 != (wrap64 ((x9_1.length : Int) - 1))) = false := bne_eq_false_iff_eq.mpr c28
                                        (try (have c28b1s := c28b1; simp only [hl24_1] at c28b1s))
                                        clear c28
                                        have H' := Aside0.mk H
                                        clear H
                                        have p191 : 0 ≤ (x38_2 : Int) := of_decide_eq_true (by first | (with_reducible assumption) | assumption)
                                        have q191 : x38_2 < (x9_1.length : Int) := of_decide_eq_true (by first | (with_reducible assumption) | assumption)
                                        obtain ⟨ad191, e191, hx191_0⟩ := Kd.at_int (Kd.R_reads' HO_9.out).2.2 x38_2 p191 q191
                                        cases e191
                                        replace p191 := eq_true p191
                                        replace q191 := eq_true q191
                                        go_wp2
                                        go_roundg k2
                                        case measure => have := HK1.out; have := HK2.out; omega
                                        case rel => exact ⟨(x38_2), (wrap64 (x38_2 + 1)), (by first | rfl | (simp; done) | (simp [*]; done)), (by first | rfl | (simp; done) | (simp [*]; done)), H', ⟨by have := HK1.out; have := HK2.out; omega⟩, ⟨by (try simp only [hl24_1]); (with_reducible repeat (first | apply Kd.R_alloc | apply Kd.R_drewN | apply Kd.R_drew)); exact HO_8.out⟩, ⟨by (try simp only [hl24_1]); (with_reducible repeat (first | apply Kd.R_alloc | apply Kd.R_drewN | apply Kd.R_drew)); exact HO_9.out⟩, ⟨by (try simp only [hl24_1]); (with_reducible repeat (first | apply Kd.R_alloc | apply Kd.R_drewN | apply Kd.R_drew)); exact HO_10.out⟩, ⟨by (try simp only [hl24_1]); (with_reducible repeat (first | apply Kd.R_alloc | apply Kd.R_drewN | apply Kd.R_drew)); exact HO_24.out⟩, ⟨by repeat (first | (with_reducible first | exact HB.out | apply below_alloc | apply pw_below_drewN | apply below_drew1) | exact HB.out)⟩⟩
                                      · rw [if_neg c28] at H
                                        have c28b0 : (x38_2 == (wrap64 ((x9_1.length : Int) - 1))) = false := beq_eq_false_iff_ne.mpr c28
                                        (try (have c28b0s := c28b0; simp only [hl24_1] at c28b0s))
                                        have c28b1 : (x38_2 != (wrap64 ((x9_1.length : Int) - 1))) = true := bne_iff_ne.mpr c28
                                        (try (have c28b1s := c28b1; simp only [hl24_1] at c28b1s))
                                        have H' := Aside0.mk H
                                        clear H
                                        have p191 : 0 ≤ (x38_2 : Int) := of_decide_eq_true (by first | (with_reducible assumption) | assumption)
                                        have q191 : x38_2 < (x9_1.length : Int) := of_decide_eq_true (by first | (with_reducible assumption) | assumption)
                                        obtain ⟨ad191, e191, hx191_0⟩ := Kd.at_int (Kd.R_reads' HO_9.out).2.2 x38_2 p191 q191
                                        cases e191
                                        replace p191 := eq_true p191
                                        replace q191 := eq_true q191
                                        go_wp2
                                        go_roundg k2
                                        case measure => have := HK1.out; have := HK2.out; omega
                                        case rel => exact ⟨(x15_2), (wrap64 (x38_2 + 1)), (by first | rfl | (simp; done) | (simp [*]; done)), (by first | rfl | (simp; done) | (simp [*]; done)), H', ⟨by have := HK1.out; have := HK2.out; omega⟩, ⟨by (try simp only [hl24_1]); (with_reducible repeat (first | apply Kd.R_alloc | apply Kd.R_drewN | apply Kd.R_drew)); exact HO_8.out⟩, ⟨by (try simp only [hl24_1]); (with_reducible repeat (first | apply Kd.R_alloc | apply Kd.R_drewN | apply Kd.R_drew)); exact HO_9.out⟩, ⟨by (try simp only [hl24_1]); (with_reducible repeat (first | apply Kd.R_alloc | apply Kd.R_drewN | apply Kd.R_drew)); exact HO_10.out⟩, ⟨by (try simp only [hl24_1]); (with_reducible repeat (first | apply Kd.R_alloc | apply Kd.R_drewN | apply Kd.R_drew)); exact HO_24.out⟩, ⟨by repeat (first | (with_reducible first | exact HB.out | apply below_alloc | apply pw_below_drewN | apply below_drew1) | exact HB.out)⟩⟩
                                    · replace c27 := Bool.eq_false_iff.mpr c27
                                      subst c27
                                      have H1 : (spec_l15Lay.l1 k2 a0 l1 false x8_1 x9_1 x10_1 x11_1 (rd x24_1 x26_1) (rd (rd_L1 l1 (rd x24_1 x26_1)) 0) x38_2 x24_1 (t185.length : Int) x26_1 (x9_1.length : Int) (wrap64 (x38_2 + 1))) = some (r1, r2) := by rw [if_neg (show ¬ (false = true) by decide)] at H; exact H
                                      clear H
                                      have H := H1
                                      clear H1
                                      have H' := Aside0.mk H
                                      clear H
                                      have p191 : 0 ≤ (x38_2 : Int) := of_decide_eq_true (by first | (with_reducible assumption) | assumption)
                                      have q191 : x38_2 < (x9_1.length : Int) := of_decide_eq_true (by first | (with_reducible assumption) | assumption)
                                      obtain ⟨ad191, e191, hx191_0⟩ := Kd.at_int (Kd.R_reads' HO_9.out).2.2 x38_2 p191 q191
                                      cases e191
                                      replace p191 := eq_true p191
                                      replace q191 := eq_true q191
                                      go_wp2
                                      go_roundg k2
                                      case measure => have := HK1.out; have := HK2.out; omega
                                      case rel => exact ⟨(x38_2), (wrap64 (x38_2 + 1)), (by first | rfl | (simp; done) | (simp [*]; done)), (by first | rfl | (simp; done) | (simp [*]; done)), H', ⟨by have := HK1.out; have := HK2.out; omega⟩, ⟨by (try simp only [hl24_1]); (with_reducible repeat (first | apply Kd.R_alloc | apply Kd.R_drewN | apply Kd.R_drew)); exact HO_8.out⟩, ⟨by (try simp only [hl24_1]); (with_reducible repeat (first | apply Kd.R_alloc | apply Kd.R_drewN | apply Kd.R_drew)); exact HO_9.out⟩, ⟨by (try simp only [hl24_1]); (with_reducible repeat (first | apply Kd.R_alloc | apply Kd.R_drewN | apply Kd.R_drew)); exact HO_10.out⟩, ⟨by (try simp only [hl24_1]); (with_reducible repeat (first | apply Kd.R_alloc | apply Kd.R_drewN | apply Kd.R_drew)); exact HO_24.out⟩, ⟨by repeat (first | (with_reducible first | exact HB.out | apply below_alloc | apply pw_below_drewN | apply below_drew1) | exact HB.out)⟩⟩
                                  · rw [if_neg c26] at H
                                    have c26b0 : decide ((wrap64 ((rd x9_1 x38_2) + (rd (rd_L1 l1 (rd x24_1 x26_1)) 0))) ≤ a0) = false := decide_eq_false c26
                                    clear c26
                                    have H' := Aside0.mk H
                                    clear H
                                    have p191 : 0 ≤ (x38_2 : Int) := of_decide_eq_true (by first | (with_reducible assumption) | assumption)
                                    have q191 : x38_2 < (x9_1.length : Int) := of_decide_eq_true (by first | (with_reducible assumption) | assumption)
                                    obtain ⟨ad191, e191, hx191_0⟩ := Kd.at_int (Kd.R_reads' HO_9.out).2.2 x38_2 p191 q191
                                    cases e191
                                    replace p191 := eq_true p191
                                    replace q191 := eq_true q191
                                    go_wp2
                                    go_roundg k2
                                    case measure => have := HK1.out; have := HK2.out; omega
                                    case rel => exact ⟨(x15_2), (wrap64 (x38_2 + 1)), (by first | rfl | (simp; done) | (simp [*]; done)), (by first | rfl | (simp; done) | (simp [*]; done)), H', ⟨by have := HK1.out; have := HK2.out; omega⟩, ⟨by (try simp only [hl24_1]); (with_reducible repeat (first | apply Kd.R_alloc | apply Kd.R_drewN | apply Kd.R_drew)); exact HO_8.out⟩, ⟨by (try simp only [hl24_1]); (with_reducible repeat (first | apply Kd.R_alloc | apply Kd.R_drewN | apply Kd.R_drew)); exact HO_9.out⟩, ⟨by (try simp only [hl24_1]); (with_reducible repeat (first | apply Kd.R_alloc | apply Kd.R_drewN | apply Kd.R_drew)); exact HO_10.out⟩, ⟨by (try simp only [hl24_1]); (with_reducible repeat (first | apply Kd.R_alloc | apply Kd.R_drewN | apply Kd.R_drew)); exact HO_24.out⟩, ⟨by repeat (first | (with_reducible first | exact HB.out | apply below_alloc | apply pw_below_drewN | apply below_drew1) | exact HB.out)⟩⟩
                                · rw [if_neg c25] at H
                                  have c25b0 : decide (x15_2 < 0) = false := decide_eq_false c25
                                  clear c25
                                  have H' := Aside0.mk H
                                  clear H
                                  have p191 : 0 ≤ (x38_2 : Int) := of_decide_eq_true (by first | (with_reducible assumption) | assumption)
                                  have q191 : x38_2 < (x9_1.length : Int) := of_decide_eq_true (by first | (with_reducible assumption) | assumption)
                                  obtain ⟨ad191, e191, hx191_0⟩ := Kd.at_int (Kd.R_reads' HO_9.out).2.2 x38_2 p191 q191
                                  cases e191
                                  replace p191 := eq_true p191
                                  replace q191 := eq_true q191
                                  go_wp2
                                  go_roundg k2
                                  case measure => have := HK1.out; have := HK2.out; omega
                                  case rel => exact ⟨(x15_2), (wrap64 (x38_2 + 1)), (by first | rfl | (simp; done) | (simp [*]; done)), (by first | rfl | (simp; done) | (simp [*]; done)), H', ⟨by have := HK1.out; have := HK2.out; omega⟩, ⟨by (try simp only [hl24_1]); (with_reducible repeat (first | apply Kd.R_alloc | apply Kd.R_drewN | apply Kd.R_drew)); exact HO_8.out⟩, ⟨by (try simp only [hl24_1]); (with_reducible repeat (first | apply Kd.R_alloc | apply Kd.R_drewN | apply Kd.R_drew)); exact HO_9.out⟩, ⟨by (try simp only [hl24_1]); (with_reducible repeat (first | apply Kd.R_alloc | apply Kd.R_drewN | apply Kd.R_drew)); exact HO_10.out⟩, ⟨by (try simp only [hl24_1]); (with_reducible repeat (first | apply Kd.R_alloc | apply Kd.R_drewN | apply Kd.R_drew)); exact HO_24.out⟩, ⟨by repeat (first | (with_reducible first | exact HB.out | apply below_alloc | apply pw_below_drewN | apply below_drew1) | exact HB.out)⟩⟩
                              · rw [if_neg c24] at H
                                exact absurd H (by simp)
                            · rw [if_neg c23] at H
                              exact absurd H (by simp)
                          · rw [if_neg c22] at H
                            have c22b0 : decide (x38_2 < (x9_1.length : Int)) = false := decide_eq_false c22
                            (try (have c22b0s := c22b0; simp only [hl24_1] at c22b0s))
                            clear c22
                            by_cases c29 : x15_2 < 0
                            · rw [if_pos c29] at H
                              have c29b0 : decide (x15_2 < 0) = true := decide_eq_true c29
                              clear c29
                              by_cases c30 : x9_1.length < 17592186044416
                              · rw [if_pos c30] at H
                                have LMc30 := Aside0.mk c30
                                clear c30
                                obtain ⟨y192, hy192⟩ : ∃ y_ : List Int, y_ = (x9_1 ++ [0]) := ⟨_, rfl⟩
                                replace H : (if x10_1.length < 17592186044416 then ((some (x10_1 ++ [x11_1] : List Int)).bind fun y195 => (if 0 ≤ (rd x24_1 x26_1) then (if (rd x24_1 x26_1) < (l1.length : Int) then (if 1 < ((rd_L1 l1 (rd x24_1 x26_1)).length : Int) then (if 0 ≤ (x9_1.length : Int) then (if (x9_1.length : Int) < (y192.length : Int) then (if (x9_1.length : Int) < (y195.length : Int) then (if (rd x24_1 x26_1) < (x8_1.length : Int) then (spec_l15Lay.l0 k2 a0 l1 a2 (x8_1.set ((rd x24_1 x26_1) : Int).toNat (⟨rd y192 (x9_1.length : Int), rd y195 (x9_1.length : Int)⟩ : S40)) (y192.set ((x9_1.length : Int) : Int).toNat (wrap64 ((rd y192 (x9_1.length : Int)) + (rd (rd_L1 l1 (rd x24_1 x26_1)) 0)))) y195 (wrap64 (x11_1 + (rd (rd_L1 l1 (rd x24_1 x26_1)) 1))) x24_1 (t185.length : Int) (wrap64 (x26_1 + 1))) else (none)) else (none)) else (none)) else (none)) else (none)) else (none)) else (none))) else (none)) = some (r1, r2) := by first | (rw [hy192]; with_reducible exact H) | (have H2_ := (Option.bind_some _ _).symm.trans H; rw [hy192]; with_reducible exact H2_) | (have H2_ := (Option.bind_some _ _).symm.trans H; with_reducible exact H2_) | with_reducible exact H | (rw [hy192]; exact H) | exact H
                                have Ny192 := Aside0.mk hy192
                                clear hy192
                                by_cases c31 : x10_1.length < 17592186044416
                                · rw [if_pos c31] at H
                                  have LMc31 := Aside0.mk c31
                                  clear c31
                                  obtain ⟨y195, hy195⟩ : ∃ y_ : List Int, y_ = (x10_1 ++ [x11_1]) := ⟨_, rfl⟩
                                  replace H : (if 0 ≤ (rd x24_1 x26_1) then (if (rd x24_1 x26_1) < (l1.length : Int) then (if 1 < ((rd_L1 l1 (rd x24_1 x26_1)).length : Int) then (if 0 ≤ (x9_1.length : Int) then (if (x9_1.length : Int) < (y192.length : Int) then (if (x9_1.length : Int) < (y195.length : Int) then (if (rd x24_1 x26_1) < (x8_1.length : Int) then (spec_l15Lay.l0 k2 a0 l1 a2 (x8_1.set ((rd x24_1 x26_1) : Int).toNat (⟨rd y192 (x9_1.length : Int), rd y195 (x9_1.length : Int)⟩ : S40)) (y192.set ((x9_1.length : Int) : Int).toNat (wrap64 ((rd y192 (x9_1.length : Int)) + (rd (rd_L1 l1 (rd x24_1 x26_1)) 0)))) y195 (wrap64 (x11_1 + (rd (rd_L1 l1 (rd x24_1 x26_1)) 1))) x24_1 (t185.length : Int) (wrap64 (x26_1 + 1))) else (none)) else (none)) else (none)) else (none)) else (none)) else (none)) else (none)) = some (r1, r2) := by first | (rw [hy195]; with_reducible exact H) | (have H2_ := (Option.bind_some _ _).symm.trans H; rw [hy195]; with_reducible exact H2_) | (have H2_ := (Option.bind_some _ _).symm.trans H; with_reducible exact H2_) | with_reducible exact H | (rw [hy195]; exact H) | exact H
                                  have Ny195 := Aside0.mk hy195
                                  clear hy195
                                  by_cases c32 : 0 ≤ (rd x24_1 x26_1)
                                  · rw [if_pos c32] at H
                                    have c32b0 : decide (0 ≤ (rd x24_1 x26_1)) = true := decide_eq_true c32
                                    clear c32
                                    by_cases c33 : (rd x24_1 x26_1) < (l1.length : Int)
                                    · rw [if_pos c33] at H
                                      have c33b0 : decide ((rd x24_1 x26_1) < (l1.length : Int)) = true := decide_eq_true c33
                                      (try (have c33b0s := c33b0; simp only [hl24_1] at c33b0s))
                                      clear c33
                                      by_cases c34 : 1 < ((rd_L1 l1 (rd x24_1 x26_1)).length : Int)
                                      · rw [if_pos c34] at H
                                        have c34b0 : decide (1 < ((rd_L1 l1 (rd x24_1 x26_1)).length : Int)) = true := decide_eq_true c34
                                        (try (have c34b0s := c34b0; simp only [hl24_1] at c34b0s))
                                        have c34b1 : decide (1 < (rd_L1 l1 (rd x24_1 x26_1)).length) = true := decide_eq_true (by omega)
                                        (try (have c34b1s := c34b1; simp only [hl24_1] at c34b1s))
                                        clear c34
                                        by_cases c35 : 0 ≤ (x9_1.length : Int)
                                        · rw [if_pos c35] at H
                                          have c35b0 : decide (0 ≤ (x9_1.length : Int)) = true := decide_eq_true c35
                                          (try (have c35b0s := c35b0; simp only [hl24_1] at c35b0s))
                                          have c35b1 : decide (0 ≤ x9_1.length) = true := decide_eq_true (by omega)
                                          (try (have c35b1s := c35b1; simp only [hl24_1] at c35b1s))
                                          clear c35
                                          by_cases c36 : (x9_1.length : Int) < (y192.length : Int)
                                          · rw [if_pos c36] at H
                                            have c36b0 : decide ((x9_1.length : Int) < (y192.length : Int)) = true := decide_eq_true c36
                                            (try (have c36b0s := c36b0; simp only [hl24_1] at c36b0s))
                                            have c36b1 : decide (x9_1.length < y192.length) = true := decide_eq_true (Int.ofNat_lt.mp c36)
                                            (try (have c36b1s := c36b1; simp only [hl24_1] at c36b1s))
                                            clear c36
                                            by_cases c37 : (x9_1.length : Int) < (y195.length : Int)
                                            · rw [if_pos c37] at H
                                              have c37b0 : decide ((x9_1.length : Int) < (y195.length : Int)) = true := decide_eq_true c37
                                              (try (have c37b0s := c37b0; simp only [hl24_1] at c37b0s))
                                              have c37b1 : decide (x9_1.length < y195.length) = true := decide_eq_true (Int.ofNat_lt.mp c37)
                                              (try (have c37b1s := c37b1; simp only [hl24_1] at c37b1s))
                                              clear c37
                                              by_cases c38 : (rd x24_1 x26_1) < (x8_1.length : Int)
                                              · rw [if_pos c38] at H
                                                have c38b0 : decide ((rd x24_1 x26_1) < (x8_1.length : Int)) = true := decide_eq_true c38
                                                (try (have c38b0s := c38b0; simp only [hl24_1] at c38b0s))
                                                clear c38
                                                obtain ⟨y202, hy202⟩ : ∃ y_ : List (S40), y_ = (x8_1.set ((rd x24_1 x26_1) : Int).toNat (⟨rd y192 (x9_1.length : Int), rd y195 (x9_1.length : Int)⟩ : S40)) := ⟨_, rfl⟩
                                                replace H : (spec_l15Lay.l0 k2 a0 l1 a2 y202 (y192.set ((x9_1.length : Int) : Int).toNat (wrap64 ((rd y192 (x9_1.length : Int)) + (rd (rd_L1 l1 (rd x24_1 x26_1)) 0)))) y195 (wrap64 (x11_1 + (rd (rd_L1 l1 (rd x24_1 x26_1)) 1))) x24_1 (t185.length : Int) (wrap64 (x26_1 + 1))) = some (r1, r2) := by first | (rw [hy202]; with_reducible exact H) | (have H2_ := (Option.bind_some _ _).symm.trans H; rw [hy202]; with_reducible exact H2_) | (have H2_ := (Option.bind_some _ _).symm.trans H; with_reducible exact H2_) | with_reducible exact H | (rw [hy202]; exact H) | exact H
                                                have Ny202 := Aside0.mk hy202
                                                clear hy202
                                                obtain ⟨y204, hy204⟩ : ∃ y_ : List Int, y_ = (y192.set ((x9_1.length : Int) : Int).toNat (wrap64 ((rd y192 (x9_1.length : Int)) + (rd (rd_L1 l1 (rd x24_1 x26_1)) 0)))) := ⟨_, rfl⟩
                                                replace H : (spec_l15Lay.l0 k2 a0 l1 a2 y202 y204 y195 (wrap64 (x11_1 + (rd (rd_L1 l1 (rd x24_1 x26_1)) 1))) x24_1 (t185.length : Int) (wrap64 (x26_1 + 1))) = some (r1, r2) := by first | (rw [hy204]; with_reducible exact H) | (have H2_ := (Option.bind_some _ _).symm.trans H; rw [hy204]; with_reducible exact H2_) | (have H2_ := (Option.bind_some _ _).symm.trans H; with_reducible exact H2_) | with_reducible exact H | (rw [hy204]; exact H) | exact H
                                                have Ny204 := Aside0.mk hy204
                                                clear hy204
                                                have H' := Aside0.mk H
                                                clear H
                                                try go_wp2_with (first | ((with_reducible refine gate_builtin (b := .append) (xs := #[.tmp 69, .tmp 70]) rfl ?_); (try (refine gate_guard (by rfl) ?_; dsimp only)); at_builtin; refine Kd.R_append (Kd.int .i64) (w0 := w) w.heap.size rfl (.tmp 69) (.tmp 70) 28 3 (.int .i64 0) 8 rfl Try.underlying28 info3 rfl (by decide) (by omega) (.slice Ao21 x9_1.length co21) x9_1 0 [.int .i64 0] (fun k_ => some k_ ≠ (u10 : Value).ownBlock ∧ some k_ ≠ (.slice (some ad188) x24_1.length co14 : Value).ownBlock) (fun _ => False) rfl rfl ?aP (fun _ hk => hk.elim) ?aF ?aO ?aB ?aS ?aL ?_; (case aP => exact rfl); (case aB => exact (by repeat (first | (with_reducible first | exact HB.out | apply below_alloc | apply pw_below_drewN | apply below_drew1) | exact HB.out))); (case aF => exact (fun k_ hk => ⟨Kd.fresh' (Kd.R_lt (by (with_reducible repeat (first | apply Kd.R_alloc | apply Kd.R_drewN | apply Kd.R_drew)); exact HO_10.out)) k_ hk, Kd.fresh' (Kd.R_lt (by (with_reducible repeat (first | apply Kd.R_alloc | apply Kd.R_drewN | apply Kd.R_drew)); exact HO_24.out)) k_ hk⟩)); (case aO => exact (by (with_reducible repeat (first | apply Kd.R_alloc | apply Kd.R_drewN | apply Kd.R_drew)); exact HO_9.out)); (case aS => exact (below_size (by repeat (first | (with_reducible first | exact HB.out | apply below_alloc | apply pw_below_drewN | apply below_drew1) | exact HB.out)))); (case aL => have := LMc30.out; omega); intro v193 w41 ho hb hg hat; rw [← Ny192.out] at ho; have n0_ := Aside0.mk (Kd.R_over' (by (with_reducible repeat (first | apply Kd.R_alloc | apply Kd.R_drewN | apply Kd.R_drew)); exact HO_8.out) (Kd.R_typed (by (with_reducible repeat (first | apply Kd.R_alloc | apply Kd.R_drewN | apply Kd.R_drew)); exact HO_9.out)) (by decide) hg); have n1_ := Aside0.mk (Kd.R_after (ok := (fun k_ => some k_ ≠ (.slice (some ad188) x24_1.length co14 : Value).ownBlock)) (by (with_reducible repeat (first | apply Kd.R_alloc | apply Kd.R_drewN | apply Kd.R_drew)); exact Kd.R_mono HO_10.out (fun _ hk => ⟨hk.2, hk.1⟩)) hg hat); have n2_ := Aside0.mk (Kd.R_after (ok := (fun k_ => some k_ ≠ (u10 : Value).ownBlock)) (by (with_reducible repeat (first | apply Kd.R_alloc | apply Kd.R_drewN | apply Kd.R_drew)); exact Kd.R_mono HO_24.out (fun _ hk => ⟨hk.2, hk.1⟩)) hg hat); have n3_ := Aside0.mk (hb); have n4_ := Aside0.mk (ho); clear HO_8; clear HO_10; clear HO_24; clear HB; clear HO_9; have HO_8 := n0_; have HO_10 := n1_; have HO_24 := n2_; have HB := n3_; have HO194 := n4_; clear n0_ n1_ n2_ n3_ n4_; clear ho hb hg hat) | ((with_reducible refine gate_builtin (b := .append) (xs := #[.tmp 72, .tmp 74]) rfl ?_); (try (refine gate_guard (by rfl) ?_; dsimp only)); at_builtin; refine Kd.R_append (Kd.int .i64) (w0 := w) w.heap.size rfl (.tmp 72) (.tmp 74) 28 3 (.int .i64 0) 8 rfl Try.underlying28 info3 rfl (by decide) (by omega) u10 x10_1 x11_1 [.int .i64 x11_1] (fun k_ => some k_ ≠ (.slice (some ad188) x24_1.length co14 : Value).ownBlock ∧ some k_ ≠ (v193 : Value).ownBlock) (fun _ => False) rfl rfl ?aP (fun _ hk => hk.elim) ?aF ?aO ?aB ?aS ?aL ?_; (case aP => exact rfl); (case aB => exact (by repeat (first | (with_reducible first | exact HB.out | apply below_alloc | apply pw_below_drewN | apply below_drew1) | exact HB.out))); (case aF => exact (fun k_ hk => ⟨Kd.fresh' (Kd.R_lt (by (with_reducible repeat (first | apply Kd.R_alloc | apply Kd.R_drewN | apply Kd.R_drew)); exact HO_24.out)) k_ hk, Kd.fresh' (Kd.R_lt (by (with_reducible repeat (first | apply Kd.R_alloc | apply Kd.R_drewN | apply Kd.R_drew)); exact HO194.out)) k_ hk⟩)); (case aO => exact (by (with_reducible repeat (first | apply Kd.R_alloc | apply Kd.R_drewN | apply Kd.R_drew)); exact HO_10.out)); (case aS => exact (below_size (by repeat (first | (with_reducible first | exact HB.out | apply below_alloc | apply pw_below_drewN | apply below_drew1) | exact HB.out)))); (case aL => have := LMc31.out; omega); intro v196 w42 ho hb hg hat; rw [← Ny195.out] at ho; have n0_ := Aside0.mk (Kd.R_over' (by (with_reducible repeat (first | apply Kd.R_alloc | apply Kd.R_drewN | apply Kd.R_drew)); exact HO_8.out) (Kd.R_typed (by (with_reducible repeat (first | apply Kd.R_alloc | apply Kd.R_drewN | apply Kd.R_drew)); exact HO_10.out)) (by decide) hg); have n1_ := Aside0.mk (Kd.R_after (ok := (fun k_ => some k_ ≠ (v193 : Value).ownBlock)) (by (with_reducible repeat (first | apply Kd.R_alloc | apply Kd.R_drewN | apply Kd.R_drew)); exact Kd.R_mono HO_24.out (fun _ hk => ⟨hk.2, hk.1⟩)) hg hat); have n2_ := Aside0.mk (Kd.R_after (ok := (fun k_ => some k_ ≠ (.slice (some ad188) x24_1.length co14 : Value).ownBlock)) (by (with_reducible repeat (first | apply Kd.R_alloc | apply Kd.R_drewN | apply Kd.R_drew)); exact Kd.R_mono HO194.out (fun _ hk => ⟨hk.2, hk.1⟩)) hg hat); have n3_ := Aside0.mk (hb); have n4_ := Aside0.mk (ho); clear HO_8; clear HO_24; clear HO194; clear HB; clear HO_10; have HO_8 := n0_; have HO_24 := n1_; have HO194 := n2_; have HB := n3_; have HO197 := n4_; clear n0_ n1_ n2_ n3_ n4_; clear ho hb hg hat; have p198 : 0 ≤ ((rd x24_1 x26_1) : Int) := of_decide_eq_true (by first | (with_reducible assumption) | assumption); have q198 : (rd x24_1 x26_1) < (l1.length : Int) := of_decide_eq_true (by first | (with_reducible assumption) | assumption); obtain ⟨ad198, A198_0, c198_0, e198, hx198_0, hl198_0, hi198_0⟩ := at_L1 HR1.out (rd x24_1 x26_1) p198 q198; obtain rfl : ad189 = ad198 := (by injection e198); replace hx198_0 := (HB.out.cell (World.block_lt_of_cell? w _ hx198_0)).trans hx198_0; have HR198_0 := Aside0.mk hi198_0; have HC198_0 := Aside0.mk hl198_0; clear hi198_0 hl198_0; replace p198 := eq_true p198; replace q198 := eq_true q198; have p199 : 0 ≤ (1 : Int) := (by omega); have q199 : 1 < ((rd_L1 l1 (rd x24_1 x26_1)).length : Int) := of_decide_eq_true (by first | (with_reducible assumption) | assumption); obtain ⟨ad199, e199, hx199_0⟩ := Kd.at_int HR198_0.out 1 p199 q199; cases e199; (try simp only [show (1 : Int).toNat = 1 from rfl, Nat.reduceMul, Nat.reduceEqDiff, Go.Addr.add, ↓reduceIte] at hx199_0); have qi199 : (1 < (rd_L1 l1 (rd x24_1 x26_1)).length) = True := eq_true (by omega); (try rw [show ((1 : Int)).toNat = 1 from rfl] at hx199_0); replace hx199_0 := (HB.out.cell (World.block_lt_of_cell? w _ hx199_0)).trans hx199_0; replace p199 := eq_true p199; replace q199 := eq_true q199))
                                                have n0_ := Aside0.mk (Kd.R_drew HO_8.out)
                                                have n1_ := Aside0.mk (Kd.R_drew HO_24.out)
                                                have n2_ := Aside0.mk (Kd.R_drew HO194.out)
                                                have n3_ := Aside0.mk (Kd.R_drew HO197.out)
                                                have n4_ := Aside0.mk (below_drew1 HB.out)
                                                clear HO_8
                                                clear HO_24
                                                clear HO194
                                                clear HO197
                                                clear HB
                                                have HO_8 := n0_
                                                have HO_24 := n1_
                                                have HO194 := n2_
                                                have HO197 := n3_
                                                have HB := n4_
                                                clear n0_ n1_ n2_ n3_ n4_
                                                obtain ⟨Ao44, co44, eo44⟩ := Kd.R_slice HO194.out
                                                (first | subst eo44 | (injection eo44 with f1_ f2_ f3_; have f4_ := f1_.symm; have f5_ := f3_.symm; clear f1_ f2_ f3_; subst f4_; subst f5_))
                                                have p200 : 0 ≤ ((x9_1.length : Int) : Int) := of_decide_eq_true (by first | (with_reducible assumption) | assumption)
                                                have q200 : (x9_1.length : Int) < (y192.length : Int) := of_decide_eq_true (by first | (with_reducible assumption) | assumption)
                                                obtain ⟨ad200, e200, hx200_0⟩ := Kd.at_int (Kd.R_reads' HO194.out).2.2 (x9_1.length : Int) p200 q200
                                                cases e200
                                                (try simp only [Go.IntWalk.toNatUp] at hx200_0)
                                                (try simp only [hl24_1] at p200)
                                                (try simp only [hl24_1] at q200)
                                                (try simp only [hl24_1] at hx200_0)
                                                replace p200 := eq_true p200
                                                replace q200 := eq_true q200
                                                obtain ⟨Ao45, co45, eo45⟩ := Kd.R_slice HO197.out
                                                (first | subst eo45 | (injection eo45 with f1_ f2_ f3_; have f4_ := f1_.symm; have f5_ := f3_.symm; clear f1_ f2_ f3_; subst f4_; subst f5_))
                                                have p201 : 0 ≤ ((x9_1.length : Int) : Int) := of_decide_eq_true (by first | (with_reducible assumption) | assumption)
                                                have q201 : (x9_1.length : Int) < (y195.length : Int) := of_decide_eq_true (by first | (with_reducible assumption) | assumption)
                                                obtain ⟨ad201, e201, hx201_0⟩ := Kd.at_int (Kd.R_reads' HO197.out).2.2 (x9_1.length : Int) p201 q201
                                                cases e201
                                                (try simp only [Go.IntWalk.toNatUp] at hx201_0)
                                                (try simp only [hl24_1] at p201)
                                                (try simp only [hl24_1] at q201)
                                                (try simp only [hl24_1] at hx201_0)
                                                replace p201 := eq_true p201
                                                replace q201 := eq_true q201
                                                have p39 : 0 ≤ ((rd x24_1 x26_1) : Int) := of_decide_eq_true (by first | (with_reducible assumption) | assumption)
                                                have q39 : ((rd x24_1 x26_1) : Int) < ((x8_1.length : Int) : Int) := of_decide_eq_true (by first | (with_reducible assumption) | assumption)
                                                obtain ⟨go39, co39, eo39, gb39, gl39, cl39, HG39⟩ := Kd.R_form HO_8.out (by omega)
                                                (first | cases eo39 | (injection eo39 with ea_ en_ ec_; (first | subst ea_ | (injection ea_ with ea_; subst ea_)); subst ec_; clear en_))
                                                have GB39 := Aside0.mk gb39
                                                have GG39 := Aside0.mk HG39
                                                clear gb39 gl39 HG39
                                                obtain ⟨ce39, hcl39, hM39, hcc39, hfr39⟩ := Kd.R_elem HO_8.out z40 ((rd x24_1 x26_1) : Int) p39 q39
                                                obtain rfl := k40_openM hM39
                                                have hx39_0 : World.cell? _ ⟨go39, ((rd x24_1 x26_1) : Int).toNat * 2, none⟩ = some (.int .i64 ((rd_T40 x8_1 (rd x24_1 x26_1)).f0)) := hcc39 0 _ rfl
                                                have hx39_1 : World.cell? _ ⟨go39, ((rd x24_1 x26_1) : Int).toNat * 2 + 1, none⟩ = some (.int .i64 ((rd_T40 x8_1 (rd x24_1 x26_1)).f1)) := hcc39 1 _ rfl
                                                have hf39_0 : World.frozen? _ ⟨go39, ((rd x24_1 x26_1) : Int).toNat * 2, none⟩ = false := hfr39 0
                                                have hf39_1 : World.frozen? _ ⟨go39, ((rd x24_1 x26_1) : Int).toNat * 2 + 1, none⟩ = false := hfr39 1
                                                (try clear hcl39); (try clear hcc39); (try clear hfr39); (try clear hM39)
                                                replace p39 := eq_true p39
                                                replace q39 := eq_true q39
                                                obtain ⟨ce46, hcl46, hM46, hcc46, hfr46⟩ := Kd.R_elem HO_8.out z40 ((rd x24_1 x26_1) : Int) (of_decide_eq_true (by first | (with_reducible assumption) | assumption)) (by have h_ : ((rd x24_1 x26_1) : Int) < ((x8_1.length : Int) : Int) := of_decide_eq_true (by first | (with_reducible assumption) | assumption); first | exact h_ | (have e_ := (Kd.R_reads' HO_8.out).1; omega) | simpa using h_)
                                                obtain rfl := k40_openM hM46
                                                have HP46 := (Kd.R_seg HO_8.out ((rd x24_1 x26_1) : Int) (of_decide_eq_true (by first | (with_reducible assumption) | assumption)) (by have h_ : ((rd x24_1 x26_1) : Int) < ((x8_1.length : Int) : Int) := of_decide_eq_true (by first | (with_reducible assumption) | assumption); first | exact h_ | (have e_ := (Kd.R_reads' HO_8.out).1; omega) | simpa using h_) (seg := [.int .i64 (rd y192 (x9_1.length : Int)), .int .i64 (rd y195 (x9_1.length : Int))]) (j := 0) hcl46 hcc46 (show 2 ≤ 2 from by decide) (x' := (⟨rd y192 (x9_1.length : Int), rd y195 (x9_1.length : Int)⟩ : S40)) (k40_mkM _ _ _ (⟨rd y192 (x9_1.length : Int), rd y195 (x9_1.length : Int)⟩ : S40) ) (fun _ hk => hk)).1
                                                rw [← Ny202.out] at HP46
                                                have HQ46 := Aside0.mk HP46
                                                (try clear hcl46); (try clear hcc46); (try clear hfr46); (try clear hM46); (try clear HP46)
                                                refine start_ (n := 13) (S := fun w' => w'.cell? (ad200.add ((x9_1.length : Int)).toNat) = some (.int .i64 (rd y192 (x9_1.length : Int))) ∧ w'.cell? (ad201.add ((x9_1.length : Int)).toNat) = some (.int .i64 (rd y195 (x9_1.length : Int)))) (ds := [12]) #[false, false, false, false, false, false, false, false, false, false, false, false, false] (by kernel_rfl) rfl rfl ⟨hx200_0, hx201_0⟩ (fun hHeld => ?_); refine with_tabW spec_l15Lay.tab21 spec_l15Lay.bits21 (fun HT_ HW_ => ?_)
                                                generalize w42.drew = w43 at HO_8 HO_24 HO194 HO197 HB GG39 HQ46 hf39_0 hf39_1 hx200_0 hx201_0 hx39_0 hx39_1 hHeld ⊢
                                                refine pure_ (i := 0) (N := some 84) (v := ?_) (a' := ?_) #[true, false, false, false, false, false, false, false, false, false, false, false, false] rfl rfl (any_of HT_.out (by kernel_rfl)) (fun _ _ _ h => h) (Or.inl ⟨by rfl, ?_⟩) ?_ ?_
                                                rotate_left
                                                · intro w'
                                                  go_simp
                                                  with_reducible rfl
                                                rotate_left
                                                · simp only [Act.put, List.setIfInBounds_toArray, List.set_cons_zero, List.set_cons_succ, i64_w, i32_w]
                                                  rfl
                                                refine pure_ (i := 1) (N := some 85) (v := ?_) (a' := ?_) #[true, true, false, false, false, false, false, false, false, false, false, false, false] rfl rfl (any_of HT_.out (by kernel_rfl)) (fun _ _ _ h => h) (Or.inl ⟨by rfl, ?_⟩) ?_ ?_
                                                rotate_left
                                                · intro w'
                                                  go_simp
                                                  with_reducible rfl
                                                rotate_left
                                                · simp only [Act.put, List.setIfInBounds_toArray, List.set_cons_zero, List.set_cons_succ, i64_w, i32_w]
                                                  rfl
                                                refine pure_ (i := 2) (N := some 86) (v := ?_) (a' := ?_) #[true, true, true, false, false, false, false, false, false, false, false, false, false] rfl rfl (any_of HT_.out (by kernel_rfl)) (fun _ _ _ h => h) (Or.inl ⟨by rfl, ?_⟩) ?_ ?_
                                                rotate_left
                                                · intro w'
                                                  go_simp
                                                  with_reducible rfl
                                                rotate_left
                                                · simp only [Act.put, List.setIfInBounds_toArray, List.set_cons_zero, List.set_cons_succ, i64_w, i32_w]
                                                  rfl
                                                refine pure_ (i := 3) (N := some 87) (v := ?_) (a' := ?_) #[true, true, true, true, false, false, false, false, false, false, false, false, false] rfl rfl (any_of HT_.out (by kernel_rfl)) (fun _ _ _ h => h) (Or.inl ⟨by rfl, ?_⟩) ?_ ?_
                                                rotate_left
                                                · intro w'
                                                  go_simp
                                                  with_reducible rfl
                                                rotate_left
                                                · simp only [Act.put, List.setIfInBounds_toArray, List.set_cons_zero, List.set_cons_succ, i64_w, i32_w]
                                                  rfl
                                                refine pure_ (i := 4) (N := some 88) (v := ?_) (a' := ?_) #[true, true, true, true, true, false, false, false, false, false, false, false, false] rfl rfl (any_of HT_.out (by kernel_rfl)) (fun _ _ _ h => h) (Or.inl ⟨by rfl, ?_⟩) ?_ ?_
                                                rotate_left
                                                · intro w'
                                                  go_simp
                                                  with_reducible rfl
                                                rotate_left
                                                · simp only [Act.put, List.setIfInBounds_toArray, List.set_cons_zero, List.set_cons_succ, i64_w, i32_w]
                                                  rfl
                                                refine pure_ (i := 6) (N := some 90) (v := ?_) (a' := ?_) #[true, true, true, true, true, false, true, false, false, false, false, false, false] rfl rfl (any_of HT_.out (by kernel_rfl)) (fun _ _ _ h => h) (Or.inl ⟨by rfl, ?_⟩) ?_ ?_
                                                rotate_left
                                                · intro w'
                                                  go_simp
                                                  with_reducible rfl
                                                rotate_left
                                                · simp only [Act.put, List.setIfInBounds_toArray, List.set_cons_zero, List.set_cons_succ, i64_w, i32_w]
                                                  rfl
                                                refine pure_ (i := 7) (N := some 91) (v := ?_) (a' := ?_) #[true, true, true, true, true, false, true, true, false, false, false, false, false] rfl rfl (any_of HT_.out (by kernel_rfl)) (fun _ _ _ h => h) (Or.inl ⟨by rfl, ?_⟩) ?_ ?_
                                                rotate_left
                                                · intro w'
                                                  go_simp
                                                  with_reducible rfl
                                                rotate_left
                                                · simp only [Act.put, List.setIfInBounds_toArray, List.set_cons_zero, List.set_cons_succ, i64_w, i32_w]
                                                  rfl
                                                refine pure_ (i := 8) (N := some 92) (v := ?_) (a' := ?_) #[true, true, true, true, true, false, true, true, true, false, false, false, false] rfl rfl (any_of HT_.out (by kernel_rfl)) (fun _ _ _ h => h) (Or.inl ⟨by rfl, ?_⟩) ?_ ?_
                                                rotate_left
                                                · intro w'
                                                  go_simp
                                                  with_reducible rfl
                                                rotate_left
                                                · simp only [Act.put, List.setIfInBounds_toArray, List.set_cons_zero, List.set_cons_succ, i64_w, i32_w]
                                                  rfl
                                                refine take_ (i := 5) (N := some 89) (v := ?_) (a' := ?_) #[true, true, true, true, true, true, true, true, true, false, false, false, false] rfl rfl (take_ofW HT_.out HW_.out (by kernel_rfl)) (fun _ _ _ h => h) (Or.inl ⟨by rfl, ?_⟩) hHeld ?_ ?_
                                                rotate_left
                                                · rintro w' ⟨s0, s1⟩
                                                  (try simp only [Int.toNat_natCast] at s0 s1)
                                                  go_simp
                                                  with_reducible rfl
                                                rotate_left
                                                · simp only [Act.put, List.setIfInBounds_toArray, List.set_cons_zero, List.set_cons_succ, i64_w, i32_w]
                                                  rfl
                                                refine take_ (i := 9) (N := some 93) (v := ?_) (a' := ?_) #[true, true, true, true, true, true, true, true, true, true, false, false, false] rfl rfl (take_ofW HT_.out HW_.out (by kernel_rfl)) (fun _ _ _ h => h) (Or.inl ⟨by rfl, ?_⟩) hHeld ?_ ?_
                                                rotate_left
                                                · rintro w' ⟨s0, s1⟩
                                                  (try simp only [Int.toNat_natCast] at s0 s1)
                                                  go_simp
                                                  with_reducible rfl
                                                rotate_left
                                                · simp only [Act.put, List.setIfInBounds_toArray, List.set_cons_zero, List.set_cons_succ, i64_w, i32_w]
                                                  rfl
                                                refine pure_ (i := 10) (N := some 94) (v := ?_) (a' := ?_) #[true, true, true, true, true, true, true, true, true, true, true, false, false] rfl rfl (any_of HT_.out (by kernel_rfl)) (fun _ _ _ h => h) (Or.inl ⟨by rfl, ?_⟩) ?_ ?_
                                                rotate_left
                                                · intro w'
                                                  go_simp
                                                  with_reducible rfl
                                                rotate_left
                                                · simp only [Act.put, List.setIfInBounds_toArray, List.set_cons_zero, List.set_cons_succ, i64_w, i32_w]
                                                  rfl
                                                refine pure_ (i := 11) (N := some 95) (v := ?_) (a' := ?_) #[true, true, true, true, true, true, true, true, true, true, true, true, false] rfl rfl (any_of HT_.out (by kernel_rfl)) (fun _ _ _ h => h) (Or.inl ⟨by rfl, ?_⟩) ?_ ?_
                                                rotate_left
                                                · intro w'
                                                  go_simp
                                                  with_reducible rfl
                                                rotate_left
                                                · simp only [Act.put, List.setIfInBounds_toArray, List.set_cons_zero, List.set_cons_succ, i64_w, i32_w]
                                                  rfl
                                                refine last_ (i := 12) (N := none) #[true, true, true, true, true, true, true, true, true, true, true, true, true] rfl rfl (one_of HT_.out (by kernel_rfl)) (by decide) (fun K hK => ?_)
                                                refine skip_ (w1 := ?_) (by rfl) rfl ?_ ?_
                                                rotate_left
                                                · go_simp
                                                  rfl
                                                refine hK.out _ _ ?_
                                                clear hK K
                                                refine done_ (done_of HT_.out (by kernel_rfl)) ?_
                                                have n0_ : Aside0 (Kd.R k40 40 ((w43.setCell ⟨go39, ((rd x24_1 x26_1) : Int).toNat * 2, none⟩ (.int .i64 (rd y192 (x9_1.length : Int)))).setCell ⟨go39, ((rd x24_1 x26_1) : Int).toNat * 2 + 1, none⟩ (.int .i64 (rd y195 (x9_1.length : Int)))) w.heap.size (fun _ => True) (.slice (some ⟨go39, 0, none⟩) x8_1.length co39) y202) := ⟨by (with_reducible repeat (first | apply Kd.R_alloc | apply Kd.R_drewN | apply Kd.R_drew)); exact HQ46.out⟩
                                                have n1_ : Aside0 (Kd.R (Kd.int .i64) 3 ((w43.setCell ⟨go39, ((rd x24_1 x26_1) : Int).toNat * 2, none⟩ (.int .i64 (rd y192 (x9_1.length : Int)))).setCell ⟨go39, ((rd x24_1 x26_1) : Int).toNat * 2 + 1, none⟩ (.int .i64 (rd y195 (x9_1.length : Int)))) w.heap.size (fun k_ => some k_ ≠ (.slice (some ad200) y192.length co44 : Value).ownBlock ∧ some k_ ≠ (.slice (some ad201) y195.length co45 : Value).ownBlock) (.slice (some ad188) x24_1.length co14) x24_1) := ⟨by (with_reducible repeat (first | apply Kd.R_alloc | apply Kd.R_drewN | apply Kd.R_drew)); exact Kd.R_mono (Kd.R_far (p := ⟨go39, ((rd x24_1 x26_1) : Int).toNat * 2 + 1, none⟩) (Kd.R_far (p := ⟨go39, ((rd x24_1 x26_1) : Int).toNat * 2, none⟩) (Kd.R_types HO_24.out GG39.out (by decide)) (fun _ hk => hk.2) (.int .i64 (rd y192 (x9_1.length : Int)))) (fun _ hk => hk.2) (.int .i64 (rd y195 (x9_1.length : Int)))) (fun _ hk => ⟨hk.1.1, hk.1.2⟩)⟩
                                                have n2_ : Aside0 (Kd.R (Kd.int .i64) 3 ((w43.setCell ⟨go39, ((rd x24_1 x26_1) : Int).toNat * 2, none⟩ (.int .i64 (rd y192 (x9_1.length : Int)))).setCell ⟨go39, ((rd x24_1 x26_1) : Int).toNat * 2 + 1, none⟩ (.int .i64 (rd y195 (x9_1.length : Int)))) w.heap.size (fun k_ => some k_ ≠ (.slice (some ad188) x24_1.length co14 : Value).ownBlock ∧ some k_ ≠ (.slice (some ad201) y195.length co45 : Value).ownBlock) (.slice (some ad200) y192.length co44) y192) := ⟨by (with_reducible repeat (first | apply Kd.R_alloc | apply Kd.R_drewN | apply Kd.R_drew)); exact Kd.R_mono (Kd.R_far (p := ⟨go39, ((rd x24_1 x26_1) : Int).toNat * 2 + 1, none⟩) (Kd.R_far (p := ⟨go39, ((rd x24_1 x26_1) : Int).toNat * 2, none⟩) (Kd.R_types HO194.out GG39.out (by decide)) (fun _ hk => hk.2) (.int .i64 (rd y192 (x9_1.length : Int)))) (fun _ hk => hk.2) (.int .i64 (rd y195 (x9_1.length : Int)))) (fun _ hk => ⟨hk.1.1, hk.1.2⟩)⟩
                                                have n3_ : Aside0 (Kd.R (Kd.int .i64) 3 ((w43.setCell ⟨go39, ((rd x24_1 x26_1) : Int).toNat * 2, none⟩ (.int .i64 (rd y192 (x9_1.length : Int)))).setCell ⟨go39, ((rd x24_1 x26_1) : Int).toNat * 2 + 1, none⟩ (.int .i64 (rd y195 (x9_1.length : Int)))) w.heap.size (fun k_ => some k_ ≠ (.slice (some ad188) x24_1.length co14 : Value).ownBlock ∧ some k_ ≠ (.slice (some ad200) y192.length co44 : Value).ownBlock) (.slice (some ad201) y195.length co45) y195) := ⟨by (with_reducible repeat (first | apply Kd.R_alloc | apply Kd.R_drewN | apply Kd.R_drew)); exact Kd.R_mono (Kd.R_far (p := ⟨go39, ((rd x24_1 x26_1) : Int).toNat * 2 + 1, none⟩) (Kd.R_far (p := ⟨go39, ((rd x24_1 x26_1) : Int).toNat * 2, none⟩) (Kd.R_types HO197.out GG39.out (by decide)) (fun _ hk => hk.2) (.int .i64 (rd y192 (x9_1.length : Int)))) (fun _ hk => hk.2) (.int .i64 (rd y195 (x9_1.length : Int)))) (fun _ hk => ⟨hk.1.1, hk.1.2⟩)⟩
                                                have n4_ : Aside0 (Below w.heap.size w ((w43.setCell ⟨go39, ((rd x24_1 x26_1) : Int).toNat * 2, none⟩ (.int .i64 (rd y192 (x9_1.length : Int)))).setCell ⟨go39, ((rd x24_1 x26_1) : Int).toNat * 2 + 1, none⟩ (.int .i64 (rd y195 (x9_1.length : Int))))) := ⟨by repeat (first | (with_reducible first | exact HB.out | apply below_alloc | apply pw_below_drewN | apply below_drew1 | refine below_set ?_ GB39.out | refine below_set ?_ GB39.out) | exact HB.out)⟩
                                                (try clear HO_8)
                                                (try clear HO_24)
                                                (try clear HO194)
                                                (try clear HO197)
                                                (try clear HB)
                                                generalize ((w43.setCell ⟨go39, ((rd x24_1 x26_1) : Int).toNat * 2, none⟩ (.int .i64 (rd y192 (x9_1.length : Int)))).setCell ⟨go39, ((rd x24_1 x26_1) : Int).toNat * 2 + 1, none⟩ (.int .i64 (rd y195 (x9_1.length : Int)))) = w47 at n0_ n1_ n2_ n3_ n4_ ⊢
                                                have HO_8 := n0_
                                                have HO_24 := n1_
                                                have HO194 := n2_
                                                have HO197 := n3_
                                                have HB := n4_
                                                clear n0_ n1_ n2_ n3_ n4_
                                                have p203 : 0 ≤ ((x9_1.length : Int) : Int) := of_decide_eq_true (by first | (with_reducible assumption) | assumption)
                                                have q203 : (x9_1.length : Int) < (y192.length : Int) := of_decide_eq_true (by first | (with_reducible assumption) | assumption)
                                                obtain ⟨ad203, e203, hx203_0⟩ := Kd.at_int (Kd.R_reads' HO194.out).2.2 (x9_1.length : Int) p203 q203
                                                obtain rfl : ad200 = ad203 := (by injection e203)
                                                (try simp only [Go.IntWalk.toNatUp] at hx203_0)
                                                (try simp only [hl24_1] at p203)
                                                (try simp only [hl24_1] at q203)
                                                (try simp only [hl24_1] at hx203_0)
                                                replace p203 := eq_true p203
                                                replace q203 := eq_true q203
                                                have p40 : 0 ≤ ((x9_1.length : Int) : Int) := of_decide_eq_true (by first | (with_reducible assumption) | assumption)
                                                have q40 : ((x9_1.length : Int) : Int) < ((y192.length : Int) : Int) := of_decide_eq_true (by first | (with_reducible assumption) | assumption)
                                                obtain ⟨go40, co40, eo40, gb40, gl40, cl40, HG40⟩ := Kd.R_form HO194.out (by omega)
                                                (first | cases eo40 | (injection eo40 with ea_ en_ ec_; (first | subst ea_ | (injection ea_ with ea_; subst ea_)); subst ec_; clear en_))
                                                have GB40 := Aside0.mk gb40
                                                have GG40 := Aside0.mk HG40
                                                clear gb40 gl40 HG40
                                                (first | simp only [add_plain] at hx200_0 | skip)
                                                (first | simp only [add_plain] at hx203_0 | skip)
                                                obtain ⟨hx40_0, hf40_0⟩ := Kd.R_celln 0 HO194.out ((x9_1.length : Int) : Int) p40 q40
                                                replace p40 := eq_true p40
                                                replace q40 := eq_true q40
                                                obtain ⟨hy48_, hz48_⟩ := Kd.R_celln 0 HO194.out ((x9_1.length : Int) : Int) (of_decide_eq_true (by first | (with_reducible assumption) | assumption)) (of_decide_eq_true (by first | (with_reducible assumption) | assumption))
                                                (try simp only [Go.IntWalk.toNatUp] at hy48_ hz48_)
                                                have HP48 := Kd.R_putg HO194.out ((x9_1.length : Int) : Int) (wrap64 ((rd y192 (x9_1.length : Int)) + (rd (rd_L1 l1 (rd x24_1 x26_1)) 0)))
                                                try go_wp2_with (first | ((with_reducible refine gate_store (t := 3) (p := 104) rfl ?_); refine store_event (t := 3) (p := 104) (v := ?vo_w49) (w1 := (w47.setCell ⟨go40, ((x9_1.length : Int) : Int).toNat, none⟩ (.int .i64 (wrap64 ((rd y192 (x9_1.length : Int)) + (rd (rd_L1 l1 (rd x24_1 x26_1)) 0)))))) ?hg ?ho ?hn ?hr ?_; (case ho => rfl); (case hg => rfl); (case hn => rfl); (case hr => first | (go_simp; done) | (go_simp; rfl)); intro w49 hw; have hg : w47.grownBy w49 (some go40) := (by rw [hw]; exact HP48.2); have hp_ : Kd.R (Kd.int .i64) 3 w49 w.heap.size (fun k_ => some k_ ≠ (.slice (some ad188) x24_1.length co14 : Value).ownBlock ∧ some k_ ≠ (.slice (some ad201) y195.length co45 : Value).ownBlock) (.slice (some ⟨go40, 0, none⟩) y192.length co44) y204 := (by rw [hw, Ny204.out]; exact HP48.1); clear HP48; have n0_ := Aside0.mk (Kd.R_over' (v := (.slice (some ⟨go40, 0, none⟩) y192.length co44)) (by (with_reducible repeat (first | apply Kd.R_alloc | apply Kd.R_drewN | apply Kd.R_drew)); exact HO_8.out) (Kd.R_typed HO194.out) (by decide) hg); have n1_ := Aside0.mk (Kd.R_after (v := (.slice (some ⟨go40, 0, none⟩) y192.length co44)) (v1 := (.slice (some ⟨go40, 0, none⟩) y192.length co44)) (ok := (fun k_ => some k_ ≠ (.slice (some ad201) y195.length co45 : Value).ownBlock)) (by (with_reducible repeat (first | apply Kd.R_alloc | apply Kd.R_drewN | apply Kd.R_drew)); exact Kd.R_mono HO_24.out (fun _ hk => ⟨hk.2, hk.1⟩)) hg (.inl rfl)); have n2_ := Aside0.mk (hp_); have n3_ := Aside0.mk (Kd.R_after (v := (.slice (some ⟨go40, 0, none⟩) y192.length co44)) (v1 := (.slice (some ⟨go40, 0, none⟩) y192.length co44)) (ok := (fun k_ => some k_ ≠ (.slice (some ad188) x24_1.length co14 : Value).ownBlock)) (by (with_reducible repeat (first | apply Kd.R_alloc | apply Kd.R_drewN | apply Kd.R_drew)); exact HO197.out) hg (.inl rfl)); have n4_ := Aside0.mk ((by rw [hw]; exact below_set (HB.out) GB40.out : Below w.heap.size w w49)); clear HO_8; clear HO_24; clear HO194; clear HO197; clear HB; have HO_8 := n0_; have HO_24 := n1_; have HO194 := n2_; have HO197 := n3_; have HB := n4_; clear n0_ n1_ n2_ n3_ n4_; clear hg hw hp_))
                                                (try simp only [← hl24_1])
                                                go_roundg k2
                                                case measure => have := HK1.out; have := HK2.out; omega
                                                case rel => exact ⟨(y202), (y204), (y195), (wrap64 (x11_1 + (rd (rd_L1 l1 (rd x24_1 x26_1)) 1))), (x24_1), (wrap64 (x26_1 + 1)), (by first | rfl | (simp; done) | (simp [*]; done)), (by first | rfl | (simp; done) | (simp [*]; done)), H', ⟨by have := HK1.out; have := HK2.out; omega⟩, ⟨by (try simp only [hl24_1]); (with_reducible repeat (first | apply Kd.R_alloc | apply Kd.R_drewN | apply Kd.R_drew)); exact HO_8.out⟩, ⟨by (try simp only [hl24_1]); (with_reducible repeat (first | apply Kd.R_alloc | apply Kd.R_drewN | apply Kd.R_drew)); exact Kd.R_mono HO194.out (fun _ hk => ⟨hk.2, hk.1⟩)⟩, ⟨by (try simp only [hl24_1]); (with_reducible repeat (first | apply Kd.R_alloc | apply Kd.R_drewN | apply Kd.R_drew)); exact Kd.R_mono HO197.out (fun _ hk => ⟨hk.2, hk.1⟩)⟩, ⟨by (try simp only [hl24_1]); (with_reducible repeat (first | apply Kd.R_alloc | apply Kd.R_drewN | apply Kd.R_drew)); exact Kd.R_mono HO_24.out (fun _ hk => ⟨hk.2, hk.1⟩)⟩, ⟨by repeat (first | (with_reducible first | exact HB.out | apply below_alloc | apply pw_below_drewN | apply below_drew1) | exact HB.out)⟩⟩
                                              · rw [if_neg c38] at H
                                                exact absurd H (by simp)
                                            · rw [if_neg c37] at H
                                              exact absurd H (by simp)
                                          · rw [if_neg c36] at H
                                            exact absurd H (by simp)
                                        · rw [if_neg c35] at H
                                          exact absurd H (by simp)
                                      · rw [if_neg c34] at H
                                        exact absurd H (by simp)
                                    · rw [if_neg c33] at H
                                      exact absurd H (by simp)
                                  · rw [if_neg c32] at H
                                    exact absurd H (by simp)
                                · rw [if_neg c31] at H
                                  exact absurd H (by simp)
                              · rw [if_neg c30] at H
                                exact absurd H (by simp)
                            · rw [if_neg c29] at H
                              have c29b0 : decide (x15_2 < 0) = false := decide_eq_false c29
                              clear c29
                              by_cases c50 : 0 ≤ x15_2
                              · rw [if_pos c50] at H
                                have c50b0 : decide (0 ≤ x15_2) = true := decide_eq_true c50
                                clear c50
                                by_cases c51 : x15_2 < (x9_1.length : Int)
                                · rw [if_pos c51] at H
                                  have c51b0 : decide (x15_2 < (x9_1.length : Int)) = true := decide_eq_true c51
                                  (try (have c51b0s := c51b0; simp only [hl24_1] at c51b0s))
                                  clear c51
                                  by_cases c52 : x15_2 < (x10_1.length : Int)
                                  · rw [if_pos c52] at H
                                    have c52b0 : decide (x15_2 < (x10_1.length : Int)) = true := decide_eq_true c52
                                    (try (have c52b0s := c52b0; simp only [hl24_1] at c52b0s))
                                    clear c52
                                    by_cases c53 : 0 ≤ (rd x24_1 x26_1)
                                    · rw [if_pos c53] at H
                                      have c53b0 : decide (0 ≤ (rd x24_1 x26_1)) = true := decide_eq_true c53
                                      clear c53
                                      by_cases c54 : (rd x24_1 x26_1) < (x8_1.length : Int)
                                      · rw [if_pos c54] at H
                                        have c54b0 : decide ((rd x24_1 x26_1) < (x8_1.length : Int)) = true := decide_eq_true c54
                                        (try (have c54b0s := c54b0; simp only [hl24_1] at c54b0s))
                                        clear c54
                                        obtain ⟨y207, hy207⟩ : ∃ y_ : List (S40), y_ = (x8_1.set ((rd x24_1 x26_1) : Int).toNat (⟨rd x9_1 x15_2, rd x10_1 x15_2⟩ : S40)) := ⟨_, rfl⟩
                                        replace H : (spec_l15Lay.l0 k2 a0 l1 a2 y207 (x9_1.set (x15_2 : Int).toNat (wrap64 ((rd x9_1 x15_2) + (rd (rd_L1 l1 (rd x24_1 x26_1)) 0)))) x10_1 x11_1 x24_1 (t185.length : Int) (wrap64 (x26_1 + 1))) = some (r1, r2) := by first | (rw [hy207]; with_reducible exact H) | (have H2_ := (Option.bind_some _ _).symm.trans H; rw [hy207]; with_reducible exact H2_) | (have H2_ := (Option.bind_some _ _).symm.trans H; with_reducible exact H2_) | with_reducible exact H | (rw [hy207]; exact H) | exact H
                                        have Ny207 := Aside0.mk hy207
                                        clear hy207
                                        obtain ⟨y209, hy209⟩ : ∃ y_ : List Int, y_ = (x9_1.set (x15_2 : Int).toNat (wrap64 ((rd x9_1 x15_2) + (rd (rd_L1 l1 (rd x24_1 x26_1)) 0)))) := ⟨_, rfl⟩
                                        replace H : (spec_l15Lay.l0 k2 a0 l1 a2 y207 y209 x10_1 x11_1 x24_1 (t185.length : Int) (wrap64 (x26_1 + 1))) = some (r1, r2) := by first | (rw [hy209]; with_reducible exact H) | (have H2_ := (Option.bind_some _ _).symm.trans H; rw [hy209]; with_reducible exact H2_) | (have H2_ := (Option.bind_some _ _).symm.trans H; with_reducible exact H2_) | with_reducible exact H | (rw [hy209]; exact H) | exact H
                                        have Ny209 := Aside0.mk hy209
                                        clear hy209
                                        have H' := Aside0.mk H
                                        clear H
                                        try go_wp2
                                        have n0_ := Aside0.mk (Kd.R_drew HO_8.out)
                                        have n1_ := Aside0.mk (Kd.R_drew HO_9.out)
                                        have n2_ := Aside0.mk (Kd.R_drew HO_10.out)
                                        have n3_ := Aside0.mk (Kd.R_drew HO_24.out)
                                        have n4_ := Aside0.mk (below_drew1 HB.out)
                                        clear HO_8
                                        clear HO_9
                                        clear HO_10
                                        clear HO_24
                                        clear HB
                                        have HO_8 := n0_
                                        have HO_9 := n1_
                                        have HO_10 := n2_
                                        have HO_24 := n3_
                                        have HB := n4_
                                        clear n0_ n1_ n2_ n3_ n4_
                                        have p205 : 0 ≤ (x15_2 : Int) := of_decide_eq_true (by first | (with_reducible assumption) | assumption)
                                        have q205 : x15_2 < (x9_1.length : Int) := of_decide_eq_true (by first | (with_reducible assumption) | assumption)
                                        obtain ⟨ad205, e205, hx205_0⟩ := Kd.at_int (Kd.R_reads' HO_9.out).2.2 x15_2 p205 q205
                                        cases e205
                                        replace p205 := eq_true p205
                                        replace q205 := eq_true q205
                                        obtain ⟨Ao58, co58, eo58⟩ := Kd.R_slice HO_10.out
                                        (first | subst eo58 | (injection eo58 with f1_ f2_ f3_; have f4_ := f1_.symm; have f5_ := f3_.symm; clear f1_ f2_ f3_; subst f4_; subst f5_))
                                        have p206 : 0 ≤ (x15_2 : Int) := of_decide_eq_true (by first | (with_reducible assumption) | assumption)
                                        have q206 : x15_2 < (x10_1.length : Int) := of_decide_eq_true (by first | (with_reducible assumption) | assumption)
                                        obtain ⟨ad206, e206, hx206_0⟩ := Kd.at_int (Kd.R_reads' HO_10.out).2.2 x15_2 p206 q206
                                        cases e206
                                        replace p206 := eq_true p206
                                        replace q206 := eq_true q206
                                        have p55 : 0 ≤ ((rd x24_1 x26_1) : Int) := of_decide_eq_true (by first | (with_reducible assumption) | assumption)
                                        have q55 : ((rd x24_1 x26_1) : Int) < ((x8_1.length : Int) : Int) := of_decide_eq_true (by first | (with_reducible assumption) | assumption)
                                        obtain ⟨go55, co55, eo55, gb55, gl55, cl55, HG55⟩ := Kd.R_form HO_8.out (by omega)
                                        (first | cases eo55 | (injection eo55 with ea_ en_ ec_; (first | subst ea_ | (injection ea_ with ea_; subst ea_)); subst ec_; clear en_))
                                        have GB55 := Aside0.mk gb55
                                        have GG55 := Aside0.mk HG55
                                        clear gb55 gl55 HG55
                                        obtain ⟨ce55, hcl55, hM55, hcc55, hfr55⟩ := Kd.R_elem HO_8.out z40 ((rd x24_1 x26_1) : Int) p55 q55
                                        obtain rfl := k40_openM hM55
                                        have hx55_0 : World.cell? _ ⟨go55, ((rd x24_1 x26_1) : Int).toNat * 2, none⟩ = some (.int .i64 ((rd_T40 x8_1 (rd x24_1 x26_1)).f0)) := hcc55 0 _ rfl
                                        have hx55_1 : World.cell? _ ⟨go55, ((rd x24_1 x26_1) : Int).toNat * 2 + 1, none⟩ = some (.int .i64 ((rd_T40 x8_1 (rd x24_1 x26_1)).f1)) := hcc55 1 _ rfl
                                        have hf55_0 : World.frozen? _ ⟨go55, ((rd x24_1 x26_1) : Int).toNat * 2, none⟩ = false := hfr55 0
                                        have hf55_1 : World.frozen? _ ⟨go55, ((rd x24_1 x26_1) : Int).toNat * 2 + 1, none⟩ = false := hfr55 1
                                        (try clear hcl55); (try clear hcc55); (try clear hfr55); (try clear hM55)
                                        replace p55 := eq_true p55
                                        replace q55 := eq_true q55
                                        obtain ⟨ce59, hcl59, hM59, hcc59, hfr59⟩ := Kd.R_elem HO_8.out z40 ((rd x24_1 x26_1) : Int) (of_decide_eq_true (by first | (with_reducible assumption) | assumption)) (by have h_ : ((rd x24_1 x26_1) : Int) < ((x8_1.length : Int) : Int) := of_decide_eq_true (by first | (with_reducible assumption) | assumption); first | exact h_ | (have e_ := (Kd.R_reads' HO_8.out).1; omega) | simpa using h_)
                                        obtain rfl := k40_openM hM59
                                        have HP59 := (Kd.R_seg HO_8.out ((rd x24_1 x26_1) : Int) (of_decide_eq_true (by first | (with_reducible assumption) | assumption)) (by have h_ : ((rd x24_1 x26_1) : Int) < ((x8_1.length : Int) : Int) := of_decide_eq_true (by first | (with_reducible assumption) | assumption); first | exact h_ | (have e_ := (Kd.R_reads' HO_8.out).1; omega) | simpa using h_) (seg := [.int .i64 (rd x9_1 x15_2), .int .i64 (rd x10_1 x15_2)]) (j := 0) hcl59 hcc59 (show 2 ≤ 2 from by decide) (x' := (⟨rd x9_1 x15_2, rd x10_1 x15_2⟩ : S40)) (k40_mkM _ _ _ (⟨rd x9_1 x15_2, rd x10_1 x15_2⟩ : S40) ) (fun _ hk => hk)).1
                                        rw [← Ny207.out] at HP59
                                        have HQ59 := Aside0.mk HP59
                                        (try clear hcl59); (try clear hcc59); (try clear hfr59); (try clear hM59); (try clear HP59)
                                        refine start_ (n := 13) (S := fun w' => w'.cell? (ad205.add (x15_2).toNat) = some (.int .i64 (rd x9_1 x15_2)) ∧ w'.cell? (ad206.add (x15_2).toNat) = some (.int .i64 (rd x10_1 x15_2))) (ds := [12]) #[false, false, false, false, false, false, false, false, false, false, false, false, false] (by kernel_rfl) rfl rfl ⟨hx205_0, hx206_0⟩ (fun hHeld => ?_); refine with_tabW spec_l15Lay.tab21 spec_l15Lay.bits21 (fun HT_ HW_ => ?_)
                                        generalize wr.drew = w57 at HO_8 HO_9 HO_10 HO_24 HB GG55 HQ59 hf55_0 hf55_1 hx205_0 hx206_0 hx55_0 hx55_1 hHeld ⊢
                                        refine pure_ (i := 0) (N := some 84) (v := ?_) (a' := ?_) #[true, false, false, false, false, false, false, false, false, false, false, false, false] rfl rfl (any_of HT_.out (by kernel_rfl)) (fun _ _ _ h => h) (Or.inl ⟨by rfl, ?_⟩) ?_ ?_
                                        rotate_left
                                        · intro w'
                                          go_simp
                                          with_reducible rfl
                                        rotate_left
                                        · simp only [Act.put, List.setIfInBounds_toArray, List.set_cons_zero, List.set_cons_succ, i64_w, i32_w]
                                          rfl
                                        refine pure_ (i := 1) (N := some 85) (v := ?_) (a' := ?_) #[true, true, false, false, false, false, false, false, false, false, false, false, false] rfl rfl (any_of HT_.out (by kernel_rfl)) (fun _ _ _ h => h) (Or.inl ⟨by rfl, ?_⟩) ?_ ?_
                                        rotate_left
                                        · intro w'
                                          go_simp
                                          with_reducible rfl
                                        rotate_left
                                        · simp only [Act.put, List.setIfInBounds_toArray, List.set_cons_zero, List.set_cons_succ, i64_w, i32_w]
                                          rfl
                                        refine pure_ (i := 2) (N := some 86) (v := ?_) (a' := ?_) #[true, true, true, false, false, false, false, false, false, false, false, false, false] rfl rfl (any_of HT_.out (by kernel_rfl)) (fun _ _ _ h => h) (Or.inl ⟨by rfl, ?_⟩) ?_ ?_
                                        rotate_left
                                        · intro w'
                                          go_simp
                                          with_reducible rfl
                                        rotate_left
                                        · simp only [Act.put, List.setIfInBounds_toArray, List.set_cons_zero, List.set_cons_succ, i64_w, i32_w]
                                          rfl
                                        refine pure_ (i := 3) (N := some 87) (v := ?_) (a' := ?_) #[true, true, true, true, false, false, false, false, false, false, false, false, false] rfl rfl (any_of HT_.out (by kernel_rfl)) (fun _ _ _ h => h) (Or.inl ⟨by rfl, ?_⟩) ?_ ?_
                                        rotate_left
                                        · intro w'
                                          go_simp
                                          with_reducible rfl
                                        rotate_left
                                        · simp only [Act.put, List.setIfInBounds_toArray, List.set_cons_zero, List.set_cons_succ, i64_w, i32_w]
                                          rfl
                                        refine pure_ (i := 4) (N := some 88) (v := ?_) (a' := ?_) #[true, true, true, true, true, false, false, false, false, false, false, false, false] rfl rfl (any_of HT_.out (by kernel_rfl)) (fun _ _ _ h => h) (Or.inl ⟨by rfl, ?_⟩) ?_ ?_
                                        rotate_left
                                        · intro w'
                                          go_simp
                                          with_reducible rfl
                                        rotate_left
                                        · simp only [Act.put, List.setIfInBounds_toArray, List.set_cons_zero, List.set_cons_succ, i64_w, i32_w]
                                          rfl
                                        refine pure_ (i := 6) (N := some 90) (v := ?_) (a' := ?_) #[true, true, true, true, true, false, true, false, false, false, false, false, false] rfl rfl (any_of HT_.out (by kernel_rfl)) (fun _ _ _ h => h) (Or.inl ⟨by rfl, ?_⟩) ?_ ?_
                                        rotate_left
                                        · intro w'
                                          go_simp
                                          with_reducible rfl
                                        rotate_left
                                        · simp only [Act.put, List.setIfInBounds_toArray, List.set_cons_zero, List.set_cons_succ, i64_w, i32_w]
                                          rfl
                                        refine pure_ (i := 7) (N := some 91) (v := ?_) (a' := ?_) #[true, true, true, true, true, false, true, true, false, false, false, false, false] rfl rfl (any_of HT_.out (by kernel_rfl)) (fun _ _ _ h => h) (Or.inl ⟨by rfl, ?_⟩) ?_ ?_
                                        rotate_left
                                        · intro w'
                                          go_simp
                                          with_reducible rfl
                                        rotate_left
                                        · simp only [Act.put, List.setIfInBounds_toArray, List.set_cons_zero, List.set_cons_succ, i64_w, i32_w]
                                          rfl
                                        refine pure_ (i := 8) (N := some 92) (v := ?_) (a' := ?_) #[true, true, true, true, true, false, true, true, true, false, false, false, false] rfl rfl (any_of HT_.out (by kernel_rfl)) (fun _ _ _ h => h) (Or.inl ⟨by rfl, ?_⟩) ?_ ?_
                                        rotate_left
                                        · intro w'
                                          go_simp
                                          with_reducible rfl
                                        rotate_left
                                        · simp only [Act.put, List.setIfInBounds_toArray, List.set_cons_zero, List.set_cons_succ, i64_w, i32_w]
                                          rfl
                                        refine take_ (i := 5) (N := some 89) (v := ?_) (a' := ?_) #[true, true, true, true, true, true, true, true, true, false, false, false, false] rfl rfl (take_ofW HT_.out HW_.out (by kernel_rfl)) (fun _ _ _ h => h) (Or.inl ⟨by rfl, ?_⟩) hHeld ?_ ?_
                                        rotate_left
                                        · rintro w' ⟨s0, s1⟩
                                          (try simp only [Int.toNat_natCast] at s0 s1)
                                          go_simp
                                          with_reducible rfl
                                        rotate_left
                                        · simp only [Act.put, List.setIfInBounds_toArray, List.set_cons_zero, List.set_cons_succ, i64_w, i32_w]
                                          rfl
                                        refine take_ (i := 9) (N := some 93) (v := ?_) (a' := ?_) #[true, true, true, true, true, true, true, true, true, true, false, false, false] rfl rfl (take_ofW HT_.out HW_.out (by kernel_rfl)) (fun _ _ _ h => h) (Or.inl ⟨by rfl, ?_⟩) hHeld ?_ ?_
                                        rotate_left
                                        · rintro w' ⟨s0, s1⟩
                                          (try simp only [Int.toNat_natCast] at s0 s1)
                                          go_simp
                                          with_reducible rfl
                                        rotate_left
                                        · simp only [Act.put, List.setIfInBounds_toArray, List.set_cons_zero, List.set_cons_succ, i64_w, i32_w]
                                          rfl
                                        refine pure_ (i := 10) (N := some 94) (v := ?_) (a' := ?_) #[true, true, true, true, true, true, true, true, true, true, true, false, false] rfl rfl (any_of HT_.out (by kernel_rfl)) (fun _ _ _ h => h) (Or.inl ⟨by rfl, ?_⟩) ?_ ?_
                                        rotate_left
                                        · intro w'
                                          go_simp
                                          with_reducible rfl
                                        rotate_left
                                        · simp only [Act.put, List.setIfInBounds_toArray, List.set_cons_zero, List.set_cons_succ, i64_w, i32_w]
                                          rfl
                                        refine pure_ (i := 11) (N := some 95) (v := ?_) (a' := ?_) #[true, true, true, true, true, true, true, true, true, true, true, true, false] rfl rfl (any_of HT_.out (by kernel_rfl)) (fun _ _ _ h => h) (Or.inl ⟨by rfl, ?_⟩) ?_ ?_
                                        rotate_left
                                        · intro w'
                                          go_simp
                                          with_reducible rfl
                                        rotate_left
                                        · simp only [Act.put, List.setIfInBounds_toArray, List.set_cons_zero, List.set_cons_succ, i64_w, i32_w]
                                          rfl
                                        refine last_ (i := 12) (N := none) #[true, true, true, true, true, true, true, true, true, true, true, true, true] rfl rfl (one_of HT_.out (by kernel_rfl)) (by decide) (fun K hK => ?_)
                                        refine skip_ (w1 := ?_) (by rfl) rfl ?_ ?_
                                        rotate_left
                                        · go_simp
                                          rfl
                                        refine hK.out _ _ ?_
                                        clear hK K
                                        refine done_ (done_of HT_.out (by kernel_rfl)) ?_
                                        have n0_ : Aside0 (Kd.R k40 40 ((w57.setCell ⟨go55, ((rd x24_1 x26_1) : Int).toNat * 2, none⟩ (.int .i64 (rd x9_1 x15_2))).setCell ⟨go55, ((rd x24_1 x26_1) : Int).toNat * 2 + 1, none⟩ (.int .i64 (rd x10_1 x15_2))) w.heap.size (fun _ => True) (.slice (some ⟨go55, 0, none⟩) x8_1.length co55) y207) := ⟨by (with_reducible repeat (first | apply Kd.R_alloc | apply Kd.R_drewN | apply Kd.R_drew)); exact HQ59.out⟩
                                        have n1_ : Aside0 (Kd.R (Kd.int .i64) 3 ((w57.setCell ⟨go55, ((rd x24_1 x26_1) : Int).toNat * 2, none⟩ (.int .i64 (rd x9_1 x15_2))).setCell ⟨go55, ((rd x24_1 x26_1) : Int).toNat * 2 + 1, none⟩ (.int .i64 (rd x10_1 x15_2))) w.heap.size (fun k_ => some k_ ≠ (.slice (some ad206) x10_1.length co58 : Value).ownBlock ∧ some k_ ≠ (.slice (some ad188) x24_1.length co14 : Value).ownBlock) (.slice (some ad205) x9_1.length co21) x9_1) := ⟨by (with_reducible repeat (first | apply Kd.R_alloc | apply Kd.R_drewN | apply Kd.R_drew)); exact Kd.R_mono (Kd.R_far (p := ⟨go55, ((rd x24_1 x26_1) : Int).toNat * 2 + 1, none⟩) (Kd.R_far (p := ⟨go55, ((rd x24_1 x26_1) : Int).toNat * 2, none⟩) (Kd.R_types HO_9.out GG55.out (by decide)) (fun _ hk => hk.2) (.int .i64 (rd x9_1 x15_2))) (fun _ hk => hk.2) (.int .i64 (rd x10_1 x15_2))) (fun _ hk => ⟨hk.1.1, hk.1.2⟩)⟩
                                        have n2_ : Aside0 (Kd.R (Kd.int .i64) 3 ((w57.setCell ⟨go55, ((rd x24_1 x26_1) : Int).toNat * 2, none⟩ (.int .i64 (rd x9_1 x15_2))).setCell ⟨go55, ((rd x24_1 x26_1) : Int).toNat * 2 + 1, none⟩ (.int .i64 (rd x10_1 x15_2))) w.heap.size (fun k_ => some k_ ≠ (.slice (some ad205) x9_1.length co21 : Value).ownBlock ∧ some k_ ≠ (.slice (some ad188) x24_1.length co14 : Value).ownBlock) (.slice (some ad206) x10_1.length co58) x10_1) := ⟨by (with_reducible repeat (first | apply Kd.R_alloc | apply Kd.R_drewN | apply Kd.R_drew)); exact Kd.R_mono (Kd.R_far (p := ⟨go55, ((rd x24_1 x26_1) : Int).toNat * 2 + 1, none⟩) (Kd.R_far (p := ⟨go55, ((rd x24_1 x26_1) : Int).toNat * 2, none⟩) (Kd.R_types HO_10.out GG55.out (by decide)) (fun _ hk => hk.2) (.int .i64 (rd x9_1 x15_2))) (fun _ hk => hk.2) (.int .i64 (rd x10_1 x15_2))) (fun _ hk => ⟨hk.1.1, hk.1.2⟩)⟩
                                        have n3_ : Aside0 (Kd.R (Kd.int .i64) 3 ((w57.setCell ⟨go55, ((rd x24_1 x26_1) : Int).toNat * 2, none⟩ (.int .i64 (rd x9_1 x15_2))).setCell ⟨go55, ((rd x24_1 x26_1) : Int).toNat * 2 + 1, none⟩ (.int .i64 (rd x10_1 x15_2))) w.heap.size (fun k_ => some k_ ≠ (.slice (some ad205) x9_1.length co21 : Value).ownBlock ∧ some k_ ≠ (.slice (some ad206) x10_1.length co58 : Value).ownBlock) (.slice (some ad188) x24_1.length co14) x24_1) := ⟨by (with_reducible repeat (first | apply Kd.R_alloc | apply Kd.R_drewN | apply Kd.R_drew)); exact Kd.R_mono (Kd.R_far (p := ⟨go55, ((rd x24_1 x26_1) : Int).toNat * 2 + 1, none⟩) (Kd.R_far (p := ⟨go55, ((rd x24_1 x26_1) : Int).toNat * 2, none⟩) (Kd.R_types HO_24.out GG55.out (by decide)) (fun _ hk => hk.2) (.int .i64 (rd x9_1 x15_2))) (fun _ hk => hk.2) (.int .i64 (rd x10_1 x15_2))) (fun _ hk => ⟨hk.1.1, hk.1.2⟩)⟩
                                        have n4_ : Aside0 (Below w.heap.size w ((w57.setCell ⟨go55, ((rd x24_1 x26_1) : Int).toNat * 2, none⟩ (.int .i64 (rd x9_1 x15_2))).setCell ⟨go55, ((rd x24_1 x26_1) : Int).toNat * 2 + 1, none⟩ (.int .i64 (rd x10_1 x15_2)))) := ⟨by repeat (first | (with_reducible first | exact HB.out | apply below_alloc | apply pw_below_drewN | apply below_drew1 | refine below_set ?_ GB55.out | refine below_set ?_ GB55.out) | exact HB.out)⟩
                                        (try clear HO_8)
                                        (try clear HO_9)
                                        (try clear HO_10)
                                        (try clear HO_24)
                                        (try clear HB)
                                        generalize ((w57.setCell ⟨go55, ((rd x24_1 x26_1) : Int).toNat * 2, none⟩ (.int .i64 (rd x9_1 x15_2))).setCell ⟨go55, ((rd x24_1 x26_1) : Int).toNat * 2 + 1, none⟩ (.int .i64 (rd x10_1 x15_2))) = w60 at n0_ n1_ n2_ n3_ n4_ ⊢
                                        have HO_8 := n0_
                                        have HO_9 := n1_
                                        have HO_10 := n2_
                                        have HO_24 := n3_
                                        have HB := n4_
                                        clear n0_ n1_ n2_ n3_ n4_
                                        have p208 : 0 ≤ (x15_2 : Int) := of_decide_eq_true (by first | (with_reducible assumption) | assumption)
                                        have q208 : x15_2 < (x9_1.length : Int) := of_decide_eq_true (by first | (with_reducible assumption) | assumption)
                                        obtain ⟨ad208, e208, hx208_0⟩ := Kd.at_int (Kd.R_reads' HO_9.out).2.2 x15_2 p208 q208
                                        obtain rfl : ad205 = ad208 := (by injection e208)
                                        replace p208 := eq_true p208
                                        replace q208 := eq_true q208
                                        have p56 : 0 ≤ (x15_2 : Int) := of_decide_eq_true (by first | (with_reducible assumption) | assumption)
                                        have q56 : (x15_2 : Int) < ((x9_1.length : Int) : Int) := of_decide_eq_true (by first | (with_reducible assumption) | assumption)
                                        obtain ⟨go56, co56, eo56, gb56, gl56, cl56, HG56⟩ := Kd.R_form HO_9.out (by omega)
                                        (first | cases eo56 | (injection eo56 with ea_ en_ ec_; (first | subst ea_ | (injection ea_ with ea_; subst ea_)); subst ec_; clear en_))
                                        have GB56 := Aside0.mk gb56
                                        have GG56 := Aside0.mk HG56
                                        clear gb56 gl56 HG56
                                        (first | simp only [add_plain] at hx205_0 | skip)
                                        (first | simp only [add_plain] at hx208_0 | skip)
                                        obtain ⟨hx56_0, hf56_0⟩ := Kd.R_celln 0 HO_9.out (x15_2 : Int) p56 q56
                                        replace p56 := eq_true p56
                                        replace q56 := eq_true q56
                                        obtain ⟨hy61_, hz61_⟩ := Kd.R_celln 0 HO_9.out (x15_2 : Int) (of_decide_eq_true (by first | (with_reducible assumption) | assumption)) (of_decide_eq_true (by first | (with_reducible assumption) | assumption))
                                        have HP61 := Kd.R_putg HO_9.out (x15_2 : Int) (wrap64 ((rd x9_1 x15_2) + (rd (rd_L1 l1 (rd x24_1 x26_1)) 0)))
                                        try go_wp2_with (first | ((with_reducible refine gate_store (t := 3) (p := 104) rfl ?_); refine store_event (t := 3) (p := 104) (v := ?vo_w62) (w1 := (w60.setCell ⟨go56, (x15_2 : Int).toNat, none⟩ (.int .i64 (wrap64 ((rd x9_1 x15_2) + (rd (rd_L1 l1 (rd x24_1 x26_1)) 0)))))) ?hg ?ho ?hn ?hr ?_; (case ho => rfl); (case hg => rfl); (case hn => rfl); (case hr => first | (go_simp; done) | (go_simp; rfl)); intro w62 hw; have hg : w60.grownBy w62 (some go56) := (by rw [hw]; exact HP61.2); have hp_ : Kd.R (Kd.int .i64) 3 w62 w.heap.size (fun k_ => some k_ ≠ (.slice (some ad206) x10_1.length co58 : Value).ownBlock ∧ some k_ ≠ (.slice (some ad188) x24_1.length co14 : Value).ownBlock) (.slice (some ⟨go56, 0, none⟩) x9_1.length co21) y209 := (by rw [hw, Ny209.out]; exact HP61.1); clear HP61; have n0_ := Aside0.mk (Kd.R_over' (v := (.slice (some ⟨go56, 0, none⟩) x9_1.length co21)) (by (with_reducible repeat (first | apply Kd.R_alloc | apply Kd.R_drewN | apply Kd.R_drew)); exact HO_8.out) (Kd.R_typed HO_9.out) (by decide) hg); have n1_ := Aside0.mk (hp_); have n2_ := Aside0.mk (Kd.R_after (v := (.slice (some ⟨go56, 0, none⟩) x9_1.length co21)) (v1 := (.slice (some ⟨go56, 0, none⟩) x9_1.length co21)) (ok := (fun k_ => some k_ ≠ (.slice (some ad188) x24_1.length co14 : Value).ownBlock)) (by (with_reducible repeat (first | apply Kd.R_alloc | apply Kd.R_drewN | apply Kd.R_drew)); exact Kd.R_mono HO_10.out (fun _ hk => ⟨hk.2, hk.1⟩)) hg (.inl rfl)); have n3_ := Aside0.mk (Kd.R_after (v := (.slice (some ⟨go56, 0, none⟩) x9_1.length co21)) (v1 := (.slice (some ⟨go56, 0, none⟩) x9_1.length co21)) (ok := (fun k_ => some k_ ≠ (.slice (some ad206) x10_1.length co58 : Value).ownBlock)) (by (with_reducible repeat (first | apply Kd.R_alloc | apply Kd.R_drewN | apply Kd.R_drew)); exact Kd.R_mono HO_24.out (fun _ hk => ⟨hk.2, hk.1⟩)) hg (.inl rfl)); have n4_ := Aside0.mk ((by rw [hw]; exact below_set (HB.out) GB56.out : Below w.heap.size w w62)); clear HO_8; clear HO_9; clear HO_10; clear HO_24; clear HB; have HO_8 := n0_; have HO_9 := n1_; have HO_10 := n2_; have HO_24 := n3_; have HB := n4_; clear n0_ n1_ n2_ n3_ n4_; clear hg hw hp_))
                                        (try simp only [← hl24_1])
                                        go_roundg k2
                                        case measure => have := HK1.out; have := HK2.out; omega
                                        case rel => exact ⟨(y207), (y209), (x10_1), (x11_1), (x24_1), (wrap64 (x26_1 + 1)), (by first | rfl | (simp; done) | (simp [*]; done)), (by first | rfl | (simp; done) | (simp [*]; done)), H', ⟨by have := HK1.out; have := HK2.out; omega⟩, ⟨by (try simp only [hl24_1]); (with_reducible repeat (first | apply Kd.R_alloc | apply Kd.R_drewN | apply Kd.R_drew)); exact HO_8.out⟩, ⟨by (try simp only [hl24_1]); (with_reducible repeat (first | apply Kd.R_alloc | apply Kd.R_drewN | apply Kd.R_drew)); exact HO_9.out⟩, ⟨by (try simp only [hl24_1]); (with_reducible repeat (first | apply Kd.R_alloc | apply Kd.R_drewN | apply Kd.R_drew)); exact Kd.R_mono HO_10.out (fun _ hk => ⟨hk.2, hk.1⟩)⟩, ⟨by (try simp only [hl24_1]); (with_reducible repeat (first | apply Kd.R_alloc | apply Kd.R_drewN | apply Kd.R_drew)); exact Kd.R_mono HO_24.out (fun _ hk => ⟨hk.2, hk.1⟩)⟩, ⟨by repeat (first | (with_reducible first | exact HB.out | apply below_alloc | apply pw_below_drewN | apply below_drew1) | exact HB.out)⟩⟩
                                      · rw [if_neg c54] at H
                                        exact absurd H (by simp)
                                    · rw [if_neg c53] at H
                                      exact absurd H (by simp)
                                  · rw [if_neg c52] at H
                                    exact absurd H (by simp)
                                · rw [if_neg c51] at H
                                  exact absurd H (by simp)
                              · rw [if_neg c50] at H
                                exact absurd H (by simp)
                    · rw [if_neg c20] at H
                      exact absurd H (by simp)
                  · rw [if_neg c19] at H
                    exact absurd H (by simp)
                · rw [if_neg c18] at H
                  exact absurd H (by simp)
              · rw [if_neg c17] at H
                exact absurd H (by simp)
            · rw [if_neg c16] at H
              exact absurd H (by simp)
          · rw [if_neg c15] at H
            have c15b0 : decide (x26_1 < (t185.length : Int)) = false := decide_eq_false c15
            (try (have c15b0s := c15b0; simp only [hl24_1] at c15b0s))
            clear c15
            simp only [Option.some.injEq, Prod.mk.injEq] at H
            obtain ⟨rfl, rfl⟩ := H
            go_wp2
            go_ret2
            exact ⟨_, by first | rfl | (simp [errW_none, errW_some] <;> rfl) | (simp [*, errW_none, errW_some] <;> rfl), by (with_reducible repeat (first | apply Kd.R_alloc | apply Kd.R_drewN | apply Kd.R_drew)); exact HO_8.out, by repeat (first | (with_reducible first | exact HB.out | apply below_alloc | apply pw_below_drewN | apply below_drew1) | exact HB.out)⟩
    · rw [if_neg c5] at H
      exact absurd H (by simp)
  · rw [if_neg c4] at H
    exact absurd H (by simp)

end Go.Proofs.Ytkndopemfleedaa.XFnExactFirstShelf
