/- What functions of the program compute, as plain Lean functions, and that Go's calls come to just that: written by wip/tools/xprint.py for the law FnColors. -/
import Derived.Test.YtihnhpohbpfkmaaXFnColorsx0
import Derived.Test.YtihnhpohbpfkmaaXFnColorsx2
import Derived.Test.YtihnhpohbpfkmaaXFnColorsx3
import Derived.Test.YtihnhpohbpfkmaaXFnColorsx5
import Derived.Test.YtihnhpohbpfkmaaXFnColorsx8
import Derived.Test.YtihnhpohbpfkmaaXFnColorsx10
namespace Go.Proofs.Ytihnhpohbpfkmaa.XFnColors
open Go.RowKit Go.Proofs.YtihnhpohbpfkmaaW.PrintWords Go.Proofs.YtihnhpohbpfkmaaW.PrintLast Go.Proofs.YtihnhpohbpfkmaaW.PrintMore
attribute [local go_sem] max2_int min2_int max_two min_two max_three min_three max_four min_four   -- for this text's walks alone
set_option linter.unusedVariables false
set_option linter.unusedSimpArgs false

/-! ### impl_CountRainbows: function 17 -/
mutual
def impl_CountRainbows.j0 : Nat → Int → List (S25) → List (List Int) → Bool → Option (Int)
 | 0, _, _, _, _ => none
 | k + 1, x0, x1, x2, x19 => if x19 = true then (some (-1)) else (impl_CountRainbows.l0 k x0 x1 0 x2 (x2.length : Int) 0)
def impl_CountRainbows.l0 : Nat → Int → List (S25) → Int → List (List Int) → Int → Int → Option (Int)
 | 0, _, _, _, _, _, _ => none
 | k + 1, x0, x1, x7, x20, x21, x22 => if x22 < x21 then (if 0 ≤ x22 then (if x22 < (x20.length : Int) then (if 0 < ((rd_L3 x20 x22).length : Int) then (if 0 ≤ (rd (rd_L3 x20 x22) 0) then (if (rd (rd_L3 x20 x22) 0) < (x1.length : Int) then (if 1 < ((rd_L3 x20 x22).length : Int) then (if 0 ≤ (rd (rd_L3 x20 x22) 1) then (if (rd (rd_L3 x20 x22) 1) < (x1.length : Int) then (if 2 < ((rd_L3 x20 x22).length : Int) then (if 0 ≤ (rd (rd_L3 x20 x22) 2) then (if (rd (rd_L3 x20 x22) 2) < (x1.length : Int) then ((impl_IsRainbow.f k x0 ((rd_T25 x1 (rd (rd_L3 x20 x22) 0)).f0) ((rd_T25 x1 (rd (rd_L3 x20 x22) 0)).f1) ((rd_T25 x1 (rd (rd_L3 x20 x22) 1)).f0) ((rd_T25 x1 (rd (rd_L3 x20 x22) 1)).f1) ((rd_T25 x1 (rd (rd_L3 x20 x22) 2)).f0) ((rd_T25 x1 (rd (rd_L3 x20 x22) 2)).f1)).bind fun t151 => (if t151 = true then (impl_CountRainbows.l0 k x0 x1 (wrap64 (x7 + 1)) x20 x21 (wrap64 (x22 + 1))) else (impl_CountRainbows.l0 k x0 x1 x7 x20 x21 (wrap64 (x22 + 1))))) else (none)) else (none)) else (none)) else (none)) else (none)) else (none)) else (none)) else (none)) else (none)) else (none)) else (none)) else (some x7)
end
def impl_CountRainbows.f (k : Nat) (a0 : Int) (l1 : List (S25)) (l2 : List (List Int)) : Option (Int) := (impl_IsTriangulation.f k l1 l2).bind fun t142 => (if t142 = true then ((impl_areColored.f k a0 l1).bind fun t143 => (impl_CountRainbows.j0 k a0 l1 l2 (!t143))) else (impl_CountRainbows.j0 k a0 l1 l2 true))
theorem impl_CountRainbows.mono_l : ∀ k, (∀ y0 y1 y2 y3, LeO (impl_CountRainbows.j0 k y0 y1 y2 y3) (impl_CountRainbows.j0 (k + 1) y0 y1 y2 y3)) ∧ (∀ y0 y1 y2 y3 y4 y5, LeO (impl_CountRainbows.l0 k y0 y1 y2 y3 y4 y5) (impl_CountRainbows.l0 (k + 1) y0 y1 y2 y3 y4 y5))
 | 0 => ⟨fun _ _ _ _ r h => by simp [impl_CountRainbows.j0] at h, fun _ _ _ _ _ _ r h => by simp [impl_CountRainbows.l0] at h⟩
 | k + 1 => by
  obtain ⟨ih0, ih1⟩ := impl_CountRainbows.mono_l k; refine ⟨?_, ?_⟩
  ·intro y0 y1 y2 y3
   unfold impl_CountRainbows.j0
   repeat' first
   | (with_reducible exact ih0 _ _ _ _)
   | (with_reducible exact ih1 _ _ _ _ _ _)
   | (with_reducible exact impl_IsRainbow.mono _ _ _ _ _ _ _ _)
   | (with_reducible exact impl_IsTriangulation.mono _ _ _)
   | (with_reducible exact impl_areColored.mono _ _ _)
   | (with_reducible exact LeO.refl _)
   | (with_reducible exact LeO.none _)
   | (with_reducible refine LeO.ite ?_ ?_)
   | (with_reducible refine LeO.bind ?_ (fun _ => ?_))
   | exact ih0 _ _ _ _
   | exact ih1 _ _ _ _ _ _
   | exact impl_IsRainbow.mono _ _ _ _ _ _ _ _
   | exact impl_IsTriangulation.mono _ _ _
   | exact impl_areColored.mono _ _ _
   | exact LeO.none _
   | refine LeO.ite ?_ ?_
   | refine LeO.bind ?_ (fun _ => ?_)
  ·intro y0 y1 y2 y3 y4 y5
   unfold impl_CountRainbows.l0
   repeat' first
   | (with_reducible exact ih0 _ _ _ _)
   | (with_reducible exact ih1 _ _ _ _ _ _)
   | (with_reducible exact impl_IsRainbow.mono _ _ _ _ _ _ _ _)
   | (with_reducible exact impl_IsTriangulation.mono _ _ _)
   | (with_reducible exact impl_areColored.mono _ _ _)
   | (with_reducible exact LeO.refl _)
   | (with_reducible exact LeO.none _)
   | (with_reducible refine LeO.ite ?_ ?_)
   | (with_reducible refine LeO.bind ?_ (fun _ => ?_))
   | exact ih0 _ _ _ _
   | exact ih1 _ _ _ _ _ _
   | exact impl_IsRainbow.mono _ _ _ _ _ _ _ _
   | exact impl_IsTriangulation.mono _ _ _
   | exact impl_areColored.mono _ _ _
   | exact LeO.none _
   | refine LeO.ite ?_ ?_
   | refine LeO.bind ?_ (fun _ => ?_)
theorem impl_CountRainbows.mono : ∀ a0 a1 a2 k, LeO (impl_CountRainbows.f k a0 a1 a2) (impl_CountRainbows.f (k + 1) a0 a1 a2) := by
 intro a0 a1 a2 k
 obtain ⟨ih0, ih1⟩ := impl_CountRainbows.mono_l k
 unfold impl_CountRainbows.f
 repeat' first
  | (with_reducible exact ih0 _ _ _ _)
  | (with_reducible exact ih1 _ _ _ _ _ _)
  | (with_reducible exact impl_IsRainbow.mono _ _ _ _ _ _ _ _)
  | (with_reducible exact impl_IsTriangulation.mono _ _ _)
  | (with_reducible exact impl_areColored.mono _ _ _)
  | (with_reducible exact LeO.refl _)
  | (with_reducible exact LeO.none _)
  | (with_reducible refine LeO.ite ?_ ?_)
  | (with_reducible refine LeO.bind ?_ (fun _ => ?_))
  | exact ih0 _ _ _ _
  | exact ih1 _ _ _ _ _ _
  | exact impl_IsRainbow.mono _ _ _ _ _ _ _ _
  | exact impl_IsTriangulation.mono _ _ _
  | exact impl_areColored.mono _ _ _
  | exact LeO.none _
  | refine LeO.ite ?_ ?_
  | refine LeO.bind ?_ (fun _ => ?_)
def impl_CountRainbows.T7 : Bool × List (List Nat × List Nat) := (true, [([], []), ([], []), ([], []), ([2], [2]), ([3], [3]), ([1, 4], [1, 4]), ([5], [5]), ([], []), ([], []), ([8], [8]), ([9], [9]), ([7, 10], [7, 10]), ([11], [11]), ([], []), ([], []), ([14], [14]), ([15], [15]), ([13, 16], [13, 16]), ([17], [17]), ([0, 6, 12, 18], [0, 6, 12, 18])])
def impl_CountRainbows.B7 : List Nat := [0, 0, 0, 4, 12, 30, 62, 0, 0, 256, 768, 1920, 3968, 0, 0, 16384, 49152, 122880, 253952, 524287]
theorem impl_CountRainbows.tab7 : rtab .any (opsOf Try.f17 7) = impl_CountRainbows.T7 := by kernel_rfl
theorem impl_CountRainbows.bits7 : waitsOk impl_CountRainbows.T7.2 impl_CountRainbows.B7 = true := by kernel_rfl
def impl_CountRainbows.od0 : List Nat := [0, 1, 2, 3, 7, 8, 9, 13, 14, 15, 4, 5, 6, 10, 11, 12, 16, 17, 18, 19]
set_option maxHeartbeats 8000000 in
set_option maxRecDepth 100000 in
theorem impl_CountRainbows.calls (k : Nat) (a0 : Int) (A1 : Option Addr) (c1 : Nat) (l1 : List (S25)) (A2 : Option Addr) (c2 : Nat) (l2 : List (List Int)) (r : Int) (w : World) (hr1 : Kd.C k25 w A1 l1.length l1) (hc1 : l1.length ≤ c1) (hr2 : Kd.C (Kd.slice 3 (Kd.int .i64)) w A2 l2.length l2) (hc2 : l2.length ≤ c2) (h : impl_CountRainbows.f k a0 l1 l2 = some r) :
  Calls Try.prog 17 #[.int .i64 a0, .slice A1 l1.length c1, .slice A2 l2.length c2] w fun e w' => e = .returned (.int .i64 r) ∧ Below w.heap.size w w' := by
 have hu25 := Try.underlying25
 have HR1 := Aside0.mk hr1
 have HC1 := Aside0.mk hc1
 clear hr1 hc1
 have HR2 := Aside0.mk hr2
 have HC2 := Aside0.mk hc2
 clear hr2 hc2
 have HB := Aside0.mk (Below.refl w.heap.size w)
 have H : ((impl_IsTriangulation.f k l1 l2).bind fun t142 => (if t142 = true then ((impl_areColored.f k a0 l1).bind fun t143 => (impl_CountRainbows.j0 k a0 l1 l2 (!t143))) else (impl_CountRainbows.j0 k a0 l1 l2 true))) = some r := h
 clear h
 have HC4 := Aside0.mk H
 clear H
 go_enter Try.func17, Try.ntmps17
 go_upto_region 1 with (fail)
 go_cut [19] (fun v19 wc => ∃ (kq : Nat) (x19_3 : Bool), v19 = .bool x19_3 ∧ Aside0 (impl_CountRainbows.j0 kq a0 l1 l2 x19_3 = some r) ∧ Aside0 (kq ≤ k) ∧ Aside0 (Below w.heap.size w wc))
 case first =>
  have H := HC4.out; clear HC4; replace H := Option.bind_eq_some_iff.mp H; obtain ⟨t142, A50, H⟩ := H; replace H : (if t142 = true then ((impl_areColored.f k a0 l1).bind fun t143 => (impl_CountRainbows.j0 k a0 l1 l2 (!t143))) else (impl_CountRainbows.j0 k a0 l1 l2 true)) = some r := H; have A5 := Aside0.mk A50; clear A50; by_cases c6 : t142 = true
  ·subst c6
   have H1 : ((impl_areColored.f k a0 l1).bind fun t143 => (impl_CountRainbows.j0 k a0 l1 l2 (!t143))) = some r := by rw [if_pos rfl] at H; exact H
   clear H; have H := H1; clear H1; replace H := Option.bind_eq_some_iff.mp H; obtain ⟨t143, A70, H⟩ := H; replace H : (impl_CountRainbows.j0 k a0 l1 l2 (!t143)) = some r := H; have A7 := Aside0.mk A70; clear A70; have H' := Aside0.mk H; clear H; go_wp2_with (first | ((with_reducible refine gate_callee (f := 45) rfl ?_); refine goesL_ (some 12) rfl rfl Try.func45 (by kernel_rfl) rfl #[.slice A1 l1.length c1, .slice A2 l2.length c2] rfl (by (try simp only [List.map_toArray, List.map_cons, List.map_nil]); first | done | rfl | (simp only [List.length_drop, List.length_take]; rfl)) ?_; (with_reducible refine (impl_IsTriangulation.calls k _ _ l1 _ _ l2 true _ ?side1 ?side2 ?side3 ?side4 A5.out).mono ?_); (case side1 => repeat (first | exact (Kd.C_below HR1.out HB.out) | (with_reducible refine Kd.C_alloc ?_ _) | (with_reducible refine Kd.C_drewN ?_ _) | (with_reducible refine Kd.C_drew ?_))); (case side2 => exact HC1.out); (case side3 => repeat (first | exact (Kd.C_below HR2.out HB.out) | (with_reducible refine Kd.C_alloc ?_ _) | (with_reducible refine Kd.C_drewN ?_ _) | (with_reducible refine Kd.C_drew ?_))); (case side4 => exact HC2.out); rintro e w8 ⟨rfl, hb⟩; refine ⟨_, rfl, ?_⟩; have n0_ := Aside0.mk (below_step HB.out hb); clear HB; have HB := n0_; clear n0_; (try clear hb)) | (go_at_call 44; (with_reducible refine (impl_areColored.calls k a0 _ _ l1 t143 _ ?side1 ?side2 A7.out).mono ?_); (case side1 => repeat (first | exact (Kd.C_below HR1.out HB.out) | (with_reducible refine Kd.C_alloc ?_ _) | (with_reducible refine Kd.C_drewN ?_ _) | (with_reducible refine Kd.C_drew ?_))); (case side2 => exact HC1.out); rintro e w9 ⟨rfl, hb⟩; have n0_ := Aside0.mk (below_step HB.out hb); clear HB; have HB := n0_; clear n0_; (try clear hb))); go_meet
   case rel => exact ⟨_, (!t143), (by first | rfl | (simp; done) | (simp [*]; done)), H', ⟨by first | omega | exact Nat.le_refl _⟩, ⟨by repeat (first | (with_reducible first | exact HB.out | apply below_alloc | apply pw_below_drewN | apply below_drew1) | exact HB.out)⟩⟩
  ·replace c6 := Bool.eq_false_iff.mpr c6
   subst c6
   have H1 : (impl_CountRainbows.j0 k a0 l1 l2 true) = some r := by rw [if_neg (show ¬ (false = true) by decide)] at H; exact H
   clear H; have H := H1; clear H1; have H' := Aside0.mk H; clear H; go_wp2_with (first | ((with_reducible refine gate_callee (f := 45) rfl ?_); refine goesL_ (some 12) rfl rfl Try.func45 (by kernel_rfl) rfl #[.slice A1 l1.length c1, .slice A2 l2.length c2] rfl (by (try simp only [List.map_toArray, List.map_cons, List.map_nil]); first | done | rfl | (simp only [List.length_drop, List.length_take]; rfl)) ?_; (with_reducible refine (impl_IsTriangulation.calls k _ _ l1 _ _ l2 false _ ?side1 ?side2 ?side3 ?side4 A5.out).mono ?_); (case side1 => repeat (first | exact (Kd.C_below HR1.out HB.out) | (with_reducible refine Kd.C_alloc ?_ _) | (with_reducible refine Kd.C_drewN ?_ _) | (with_reducible refine Kd.C_drew ?_))); (case side2 => exact HC1.out); (case side3 => repeat (first | exact (Kd.C_below HR2.out HB.out) | (with_reducible refine Kd.C_alloc ?_ _) | (with_reducible refine Kd.C_drewN ?_ _) | (with_reducible refine Kd.C_drew ?_))); (case side4 => exact HC2.out); rintro e w10 ⟨rfl, hb⟩; refine ⟨_, rfl, ?_⟩; have n0_ := Aside0.mk (below_step HB.out hb); clear HB; have HB := n0_; clear n0_; (try clear hb))); go_meet
   case rel => exact ⟨_, (true), (by first | rfl | (simp; done) | (simp [*]; done)), H', ⟨by first | omega | exact Nat.le_refl _⟩, ⟨by repeat (first | (with_reducible first | exact HB.out | apply below_alloc | apply pw_below_drewN | apply below_drew1) | exact HB.out)⟩⟩
 case rest =>
  clear HC4; try clear c1; try clear c2
  try clear p2
  try clear c4
  try clear c6
  obtain ⟨kq, x19_3, rfl, HA, HJ3, HB⟩ := hcut; cases kq with
  | zero => exact absurd HA.out (by simp [impl_CountRainbows.j0])
  | succ kj3 =>
   have H := HA.out; clear HA; simp only [impl_CountRainbows.j0] at H; by_cases c11 : x19_3 = true
   ·subst c11
    have H1 : (some (-1)) = some r := by rw [if_pos rfl] at H; exact H
    clear H; have H := H1; clear H1; obtain rfl := Option.some.inj H; go_wp2; go_ret
    exact ⟨by first | rfl | (simp <;> rfl), by repeat (first | (with_reducible first | exact HB.out | apply below_alloc | apply pw_below_drewN | apply below_drew1) | exact HB.out)⟩
   ·replace c11 := Bool.eq_false_iff.mpr c11
    subst c11
    have H1 : (impl_CountRainbows.l0 kj3 a0 l1 0 l2 (l2.length : Int) 0) = some r := by rw [if_neg (show ¬ (false = true) by decide)] at H; exact H
    clear H; have H := H1; clear H1; have H' := Aside0.mk H; clear H; go_wp2; go_loopg [7, 22] kj3 (fun kq v7 v22 w' => ∃ (x7_2 : Int) (x22_2 : Int), v7 = .int .i64 x7_2 ∧ v22 = .int .i64 x22_2 ∧ Aside0 (impl_CountRainbows.l0 kq a0 l1 x7_2 l2 (l2.length : Int) x22_2 = some r) ∧ Aside0 (kq ≤ kj3) ∧ Aside0 (Below w.heap.size w w'))
    case atStart => exact ⟨(0), (0), (by first | rfl | (simp; done) | (simp [*]; done)), (by first | rfl | (simp; done) | (simp [*]; done)), H', ⟨Nat.le_refl _⟩, ⟨by repeat (first | (with_reducible first | exact HB.out | apply below_alloc | apply pw_below_drewN | apply below_drew1) | exact HB.out)⟩⟩
    case round =>
     clear H'; try clear c1; try clear c2
     try clear p2
     try clear c4
     try clear c6
     try clear c11
     try clear p2
     obtain ⟨x7_2, x22_2, rfl, rfl, HA, HK2, HB⟩ := hrel; cases gk with
     | zero => exact absurd HA.out (by simp [impl_CountRainbows.l0])
     | succ k2 =>
      have H := HA.out; clear HA; simp only [impl_CountRainbows.l0] at H; by_cases c12 : x22_2 < (l2.length : Int)
      ·rw [if_pos c12] at H
       have c12b0 : decide (x22_2 < (l2.length : Int)) = true := decide_eq_true c12; clear c12; by_cases c13 : 0 ≤ x22_2
       ·rw [if_pos c13] at H
        have c13b0 : decide (0 ≤ x22_2) = true := decide_eq_true c13; clear c13; by_cases c14 : x22_2 < (l2.length : Int)
        ·rw [if_pos c14] at H
         have c14b0 : decide (x22_2 < (l2.length : Int)) = true := decide_eq_true c14; clear c14; by_cases c15 : 0 < ((rd_L3 l2 x22_2).length : Int)
         ·rw [if_pos c15] at H
          have c15b0 : decide (0 < ((rd_L3 l2 x22_2).length : Int)) = true := decide_eq_true c15; have c15b1 : decide (0 < (rd_L3 l2 x22_2).length) = true := decide_eq_true (by omega); clear c15; by_cases c16 : 0 ≤ (rd (rd_L3 l2 x22_2) 0)
          ·rw [if_pos c16] at H
           have c16b0 : decide (0 ≤ (rd (rd_L3 l2 x22_2) 0)) = true := decide_eq_true c16; clear c16; by_cases c17 : (rd (rd_L3 l2 x22_2) 0) < (l1.length : Int)
           ·rw [if_pos c17] at H
            have c17b0 : decide ((rd (rd_L3 l2 x22_2) 0) < (l1.length : Int)) = true := decide_eq_true c17; clear c17; by_cases c18 : 1 < ((rd_L3 l2 x22_2).length : Int)
            ·rw [if_pos c18] at H
             have c18b0 : decide (1 < ((rd_L3 l2 x22_2).length : Int)) = true := decide_eq_true c18; have c18b1 : decide (1 < (rd_L3 l2 x22_2).length) = true := decide_eq_true (by omega); clear c18; by_cases c19 : 0 ≤ (rd (rd_L3 l2 x22_2) 1)
             ·rw [if_pos c19] at H
              have c19b0 : decide (0 ≤ (rd (rd_L3 l2 x22_2) 1)) = true := decide_eq_true c19; clear c19; by_cases c20 : (rd (rd_L3 l2 x22_2) 1) < (l1.length : Int)
              ·rw [if_pos c20] at H
               have c20b0 : decide ((rd (rd_L3 l2 x22_2) 1) < (l1.length : Int)) = true := decide_eq_true c20; clear c20; by_cases c21 : 2 < ((rd_L3 l2 x22_2).length : Int)
               ·rw [if_pos c21] at H
                have c21b0 : decide (2 < ((rd_L3 l2 x22_2).length : Int)) = true := decide_eq_true c21; have c21b1 : decide (2 < (rd_L3 l2 x22_2).length) = true := decide_eq_true (by omega); clear c21; by_cases c22 : 0 ≤ (rd (rd_L3 l2 x22_2) 2)
                ·rw [if_pos c22] at H
                 have c22b0 : decide (0 ≤ (rd (rd_L3 l2 x22_2) 2)) = true := decide_eq_true c22; clear c22; by_cases c23 : (rd (rd_L3 l2 x22_2) 2) < (l1.length : Int)
                 ·rw [if_pos c23] at H
                  have c23b0 : decide ((rd (rd_L3 l2 x22_2) 2) < (l1.length : Int)) = true := decide_eq_true c23; clear c23; replace H := Option.bind_eq_some_iff.mp H; obtain ⟨t151, A240, H⟩ := H; replace H : (if t151 = true then (impl_CountRainbows.l0 k2 a0 l1 (wrap64 (x7_2 + 1)) l2 (l2.length : Int) (wrap64 (x22_2 + 1))) else (impl_CountRainbows.l0 k2 a0 l1 x7_2 l2 (l2.length : Int) (wrap64 (x22_2 + 1)))) = some r := H; have A24 := Aside0.mk A240; clear A240; by_cases c25 : t151 = true
                  ·subst c25
                   have H1 : (impl_CountRainbows.l0 k2 a0 l1 (wrap64 (x7_2 + 1)) l2 (l2.length : Int) (wrap64 (x22_2 + 1))) = some r := by rw [if_pos rfl] at H; exact H
                   clear H; have H := H1; clear H1; have H' := Aside0.mk H; clear H; have p144 : 0 ≤ (x22_2 : Int) := of_decide_eq_true (by first | (with_reducible assumption) | assumption); have q144 : x22_2 < (l2.length : Int) := of_decide_eq_true (by first | (with_reducible assumption) | assumption); obtain ⟨ad144, A144_0, c144_0, e144, hx144_0, hl144_0, hi144_0⟩ := at_L3 HR2.out x22_2 p144 q144; cases e144; (try replace hx144_0 := (HB.out.cell (World.block_lt_of_cell? w _ hx144_0)).trans hx144_0); have HR144_0 := Aside0.mk hi144_0; have HC144_0 := Aside0.mk hl144_0; clear hi144_0 hl144_0; replace p144 := eq_true p144; replace q144 := eq_true q144; try go_wp2; have n0_ := Aside0.mk (below_drew1 HB.out); clear HB; have HB := n0_; clear n0_; have p145 : 0 ≤ (0 : Int) := (by omega); have q145 : 0 < ((rd_L3 l2 x22_2).length : Int) := of_decide_eq_true (by first | (with_reducible assumption) | assumption); obtain ⟨ad145, e145, hx145_0⟩ := Kd.at_int HR144_0.out 0 p145 q145; have hw145_0 := hx145_0; (try rw [show ((0 : Int)).toNat = 0 from rfl] at hw145_0); (try rw [show 0 * 1 = 0 from rfl] at hw145_0); (try rw [Addr.add_zero'] at hw145_0); cases e145; have qi145 : (0 < (rd_L3 l2 x22_2).length) = True := eq_true (by omega); (try rw [show ((0 : Int)).toNat = 0 from rfl] at hx145_0); (try rw [Addr.add_zero'] at hx145_0); (try replace hx145_0 := (HB.out.cell (World.block_lt_of_cell? w _ hx145_0)).trans hx145_0); replace p145 := eq_true p145; replace q145 := eq_true q145; have p146 : 0 ≤ ((rd (rd_L3 l2 x22_2) 0) : Int) := of_decide_eq_true (by first | (with_reducible assumption) | assumption); have q146 : (rd (rd_L3 l2 x22_2) 0) < (l1.length : Int) := of_decide_eq_true (by first | (with_reducible assumption) | assumption); obtain ⟨ad146, e146, hx146_0, hx146_1⟩ := at_T25 HR1.out (rd (rd_L3 l2 x22_2) 0) p146 q146; have hw146_1 := hx146_1; have hw146_0 := hx146_0; cases e146; (try replace hx146_0 := (HB.out.cell (World.block_lt_of_cell? w _ hx146_0)).trans hx146_0); (try replace hx146_1 := (HB.out.cell (World.block_lt_of_cell? w _ hx146_1)).trans hx146_1); replace p146 := eq_true p146; replace q146 := eq_true q146; have p147 : 0 ≤ (1 : Int) := (by omega); have q147 : 1 < ((rd_L3 l2 x22_2).length : Int) := of_decide_eq_true (by first | (with_reducible assumption) | assumption); obtain ⟨ad147, e147, hx147_0⟩ := Kd.at_int HR144_0.out 1 p147 q147; have hw147_0 := hx147_0; (try rw [show ((1 : Int)).toNat = 1 from rfl] at hw147_0); (try rw [show 1 * 1 = 1 from rfl] at hw147_0); (try simp only [Nat.reduceMul, Nat.reduceEqDiff, Go.Addr.add, ↓reduceIte] at hw147_0); obtain rfl : ad145 = ad147 := (by injection e147); (try simp only [show (1 : Int).toNat = 1 from rfl, Nat.reduceMul, Nat.reduceEqDiff, Go.Addr.add, ↓reduceIte] at hx147_0); have qi147 : (1 < (rd_L3 l2 x22_2).length) = True := eq_true (by omega); (try rw [show ((1 : Int)).toNat = 1 from rfl] at hx147_0); (try replace hx147_0 := (HB.out.cell (World.block_lt_of_cell? w _ hx147_0)).trans hx147_0); replace p147 := eq_true p147; replace q147 := eq_true q147; have p148 : 0 ≤ ((rd (rd_L3 l2 x22_2) 1) : Int) := of_decide_eq_true (by first | (with_reducible assumption) | assumption); have q148 : (rd (rd_L3 l2 x22_2) 1) < (l1.length : Int) := of_decide_eq_true (by first | (with_reducible assumption) | assumption); obtain ⟨ad148, e148, hx148_0, hx148_1⟩ := at_T25 HR1.out (rd (rd_L3 l2 x22_2) 1) p148 q148; have hw148_1 := hx148_1; have hw148_0 := hx148_0; obtain rfl : ad146 = ad148 := (by injection e148); (try replace hx148_0 := (HB.out.cell (World.block_lt_of_cell? w _ hx148_0)).trans hx148_0); (try replace hx148_1 := (HB.out.cell (World.block_lt_of_cell? w _ hx148_1)).trans hx148_1); replace p148 := eq_true p148; replace q148 := eq_true q148; have p149 : 0 ≤ (2 : Int) := (by omega); have q149 : 2 < ((rd_L3 l2 x22_2).length : Int) := of_decide_eq_true (by first | (with_reducible assumption) | assumption); obtain ⟨ad149, e149, hx149_0⟩ := Kd.at_int HR144_0.out 2 p149 q149; have hw149_0 := hx149_0; (try rw [show ((2 : Int)).toNat = 2 from rfl] at hw149_0); (try rw [show 2 * 1 = 2 from rfl] at hw149_0); (try simp only [Nat.reduceMul, Nat.reduceEqDiff, Go.Addr.add, ↓reduceIte] at hw149_0); obtain rfl : ad145 = ad149 := (by injection e149); (try simp only [show (2 : Int).toNat = 2 from rfl, Nat.reduceMul, Nat.reduceEqDiff, Go.Addr.add, ↓reduceIte] at hx149_0); have qi149 : (2 < (rd_L3 l2 x22_2).length) = True := eq_true (by omega); (try rw [show ((2 : Int)).toNat = 2 from rfl] at hx149_0); (try replace hx149_0 := (HB.out.cell (World.block_lt_of_cell? w _ hx149_0)).trans hx149_0); replace p149 := eq_true p149; replace q149 := eq_true q149; have p150 : 0 ≤ ((rd (rd_L3 l2 x22_2) 2) : Int) := of_decide_eq_true (by first | (with_reducible assumption) | assumption); have q150 : (rd (rd_L3 l2 x22_2) 2) < (l1.length : Int) := of_decide_eq_true (by first | (with_reducible assumption) | assumption); obtain ⟨ad150, e150, hx150_0, hx150_1⟩ := at_T25 HR1.out (rd (rd_L3 l2 x22_2) 2) p150 q150; have hw150_1 := hx150_1; have hw150_0 := hx150_0; obtain rfl : ad146 = ad150 := (by injection e150); (try replace hx150_0 := (HB.out.cell (World.block_lt_of_cell? w _ hx150_0)).trans hx150_0); (try replace hx150_1 := (HB.out.cell (World.block_lt_of_cell? w _ hx150_1)).trans hx150_1); replace p150 := eq_true p150; replace q150 := eq_true q150; refine start_ (n := 20) (S := fun w' => w'.cell? ad145 = some (.int .i64 (rd (rd_L3 l2 x22_2) 0)) ∧ w'.cell? (ad146.add (((rd (rd_L3 l2 x22_2) 0)).toNat * 2)) = some (.int .i64 ((rd_T25 l1 (rd (rd_L3 l2 x22_2) 0)).f0)) ∧ w'.cell? ⟨(ad146.add (((rd (rd_L3 l2 x22_2) 0)).toNat * 2)).block, (ad146.add (((rd (rd_L3 l2 x22_2) 0)).toNat * 2)).off + 1, none⟩ = some (.int .i64 ((rd_T25 l1 (rd (rd_L3 l2 x22_2) 0)).f1)) ∧ w'.cell? ⟨ad145.block, ad145.off + 1, none⟩ = some (.int .i64 (rd (rd_L3 l2 x22_2) 1)) ∧ w'.cell? (ad146.add (((rd (rd_L3 l2 x22_2) 1)).toNat * 2)) = some (.int .i64 ((rd_T25 l1 (rd (rd_L3 l2 x22_2) 1)).f0)) ∧ w'.cell? ⟨(ad146.add (((rd (rd_L3 l2 x22_2) 1)).toNat * 2)).block, (ad146.add (((rd (rd_L3 l2 x22_2) 1)).toNat * 2)).off + 1, none⟩ = some (.int .i64 ((rd_T25 l1 (rd (rd_L3 l2 x22_2) 1)).f1)) ∧ w'.cell? ⟨ad145.block, ad145.off + 2, none⟩ = some (.int .i64 (rd (rd_L3 l2 x22_2) 2)) ∧ w'.cell? (ad146.add (((rd (rd_L3 l2 x22_2) 2)).toNat * 2)) = some (.int .i64 ((rd_T25 l1 (rd (rd_L3 l2 x22_2) 2)).f0)) ∧ w'.cell? ⟨(ad146.add (((rd (rd_L3 l2 x22_2) 2)).toNat * 2)).block, (ad146.add (((rd (rd_L3 l2 x22_2) 2)).toNat * 2)).off + 1, none⟩ = some (.int .i64 ((rd_T25 l1 (rd (rd_L3 l2 x22_2) 2)).f1))) (ds := []) (qE_ 20 impl_CountRainbows.od0 0) (by kernel_rfl) rfl rfl ⟨((HB.out.cell (World.block_lt_of_cell? w _ hw145_0)).trans hw145_0), ((HB.out.cell (World.block_lt_of_cell? w _ hw146_0)).trans hw146_0), ((HB.out.cell (World.block_lt_of_cell? w _ hw146_1)).trans hw146_1), ((HB.out.cell (World.block_lt_of_cell? w _ hw147_0)).trans hw147_0), ((HB.out.cell (World.block_lt_of_cell? w _ hw148_0)).trans hw148_0), ((HB.out.cell (World.block_lt_of_cell? w _ hw148_1)).trans hw148_1), ((HB.out.cell (World.block_lt_of_cell? w _ hw149_0)).trans hw149_0), ((HB.out.cell (World.block_lt_of_cell? w _ hw150_0)).trans hw150_0), ((HB.out.cell (World.block_lt_of_cell? w _ hw150_1)).trans hw150_1)⟩ (fun hHeld => ?_); refine with_tabW impl_CountRainbows.tab7 impl_CountRainbows.bits7 (fun HT_ HW_ => ?_); generalize wr.drew = w26 at HB hx145_0 hx146_0 hx146_1 hx147_0 hx148_0 hx148_1 hx149_0 hx150_0 hx150_1 hHeld ⊢; iterate 19 (first | (refine gz_ HT_ ?zy ?zp ?_ (v := ?_) (a' := ?_); (case zy => intro w'; go_simp; with_reducible rfl); (case zp => simp only [Act.put, List.setIfInBounds_toArray, List.set_cons_zero, List.set_cons_succ, i64_w, i32_w]; rfl)) | (refine gt_ HT_ HW_ hHeld ?zy ?zp ?_ (v := ?_) (a' := ?_); (case zy => rintro w' ⟨s0, s1, s2, s3, s4, s5, s6, s7, s8⟩; go_simp; with_reducible rfl); (case zp => simp only [Act.put, List.setIfInBounds_toArray, List.set_cons_zero, List.set_cons_succ, i64_w, i32_w]; rfl)))
                   refine one_ (i := 19) (N := some 45) (qE_ 20 impl_CountRainbows.od0 20) rfl rfl (one_of HT_.out (by kernel_rfl)) (by decide) (fun K hK => ?_); refine goes_ Try.func11 (by kernel_rfl) rfl #[.int .i64 a0, .agg #[.int .i64 ((rd_T25 l1 (rd (rd_L3 l2 x22_2) 0)).f0), .int .i64 ((rd_T25 l1 (rd (rd_L3 l2 x22_2) 0)).f1)], .agg #[.int .i64 ((rd_T25 l1 (rd (rd_L3 l2 x22_2) 1)).f0), .int .i64 ((rd_T25 l1 (rd (rd_L3 l2 x22_2) 1)).f1)], .agg #[.int .i64 ((rd_T25 l1 (rd (rd_L3 l2 x22_2) 2)).f0), .int .i64 ((rd_T25 l1 (rd (rd_L3 l2 x22_2) 2)).f1)]] (by rfl) rfl rfl (by (try simp only [List.map_toArray, List.map_cons, List.map_nil]); first | done | rfl | (simp only [List.length_drop, List.length_take]; rfl)) ?_; with_reducible refine (impl_IsRainbow.calls k2 a0 ((rd_T25 l1 (rd (rd_L3 l2 x22_2) 0)).f0) ((rd_T25 l1 (rd (rd_L3 l2 x22_2) 0)).f1) ((rd_T25 l1 (rd (rd_L3 l2 x22_2) 1)).f0) ((rd_T25 l1 (rd (rd_L3 l2 x22_2) 1)).f1) ((rd_T25 l1 (rd (rd_L3 l2 x22_2) 2)).f0) ((rd_T25 l1 (rd (rd_L3 l2 x22_2) 2)).f1) true _ A24.out).mono ?_; rintro e w27 ⟨rfl, hb⟩
                   refine ⟨_, rfl, ?_⟩; have n0_ := Aside0.mk (below_step HB.out hb); clear HB; have HB := n0_; clear n0_; (try clear hb); (try clear hb2); (try clear hk); (try clear hi); refine hK.out _ _ ⟨((HB.out.cell (World.block_lt_of_cell? w _ hw145_0)).trans hw145_0), ((HB.out.cell (World.block_lt_of_cell? w _ hw146_0)).trans hw146_0), ((HB.out.cell (World.block_lt_of_cell? w _ hw146_1)).trans hw146_1), ((HB.out.cell (World.block_lt_of_cell? w _ hw147_0)).trans hw147_0), ((HB.out.cell (World.block_lt_of_cell? w _ hw148_0)).trans hw148_0), ((HB.out.cell (World.block_lt_of_cell? w _ hw148_1)).trans hw148_1), ((HB.out.cell (World.block_lt_of_cell? w _ hw149_0)).trans hw149_0), ((HB.out.cell (World.block_lt_of_cell? w _ hw150_0)).trans hw150_0), ((HB.out.cell (World.block_lt_of_cell? w _ hw150_1)).trans hw150_1)⟩ (fun hHeld => ?_); clear hK K; refine norm_ (a' := ?_) ?_ ?_; rotate_left
                   ·show Act.put _ (some 45) _ = _
                    simp only [Act.put, List.setIfInBounds_toArray, List.set_cons_zero, List.set_cons_succ, i64_w, i32_w]; rfl
                   refine done_ (done_of HT_.out (by kernel_rfl)) ?_; try go_wp2; go_roundg k2
                   case measure => have := HJ3.out; have := HK2.out; omega
                   case rel => exact ⟨(wrap64 (x7_2 + 1)), (wrap64 (x22_2 + 1)), (by first | rfl | (simp; done) | (simp [*]; done)), (by first | rfl | (simp; done) | (simp [*]; done)), H', ⟨by have := HJ3.out; have := HK2.out; omega⟩, ⟨by repeat (first | (with_reducible first | exact HB.out | apply below_alloc | apply pw_below_drewN | apply below_drew1) | exact HB.out)⟩⟩
                  ·replace c25 := Bool.eq_false_iff.mpr c25
                   subst c25
                   have H1 : (impl_CountRainbows.l0 k2 a0 l1 x7_2 l2 (l2.length : Int) (wrap64 (x22_2 + 1))) = some r := by rw [if_neg (show ¬ (false = true) by decide)] at H; exact H
                   clear H; have H := H1; clear H1; have H' := Aside0.mk H; clear H; have p144 : 0 ≤ (x22_2 : Int) := of_decide_eq_true (by first | (with_reducible assumption) | assumption); have q144 : x22_2 < (l2.length : Int) := of_decide_eq_true (by first | (with_reducible assumption) | assumption); obtain ⟨ad144, A144_0, c144_0, e144, hx144_0, hl144_0, hi144_0⟩ := at_L3 HR2.out x22_2 p144 q144; cases e144; (try replace hx144_0 := (HB.out.cell (World.block_lt_of_cell? w _ hx144_0)).trans hx144_0); have HR144_0 := Aside0.mk hi144_0; have HC144_0 := Aside0.mk hl144_0; clear hi144_0 hl144_0; replace p144 := eq_true p144; replace q144 := eq_true q144; try go_wp2; have n0_ := Aside0.mk (below_drew1 HB.out); clear HB; have HB := n0_; clear n0_; have p145 : 0 ≤ (0 : Int) := (by omega); have q145 : 0 < ((rd_L3 l2 x22_2).length : Int) := of_decide_eq_true (by first | (with_reducible assumption) | assumption); obtain ⟨ad145, e145, hx145_0⟩ := Kd.at_int HR144_0.out 0 p145 q145; have hw145_0 := hx145_0; (try rw [show ((0 : Int)).toNat = 0 from rfl] at hw145_0); (try rw [show 0 * 1 = 0 from rfl] at hw145_0); (try rw [Addr.add_zero'] at hw145_0); cases e145; have qi145 : (0 < (rd_L3 l2 x22_2).length) = True := eq_true (by omega); (try rw [show ((0 : Int)).toNat = 0 from rfl] at hx145_0); (try rw [Addr.add_zero'] at hx145_0); (try replace hx145_0 := (HB.out.cell (World.block_lt_of_cell? w _ hx145_0)).trans hx145_0); replace p145 := eq_true p145; replace q145 := eq_true q145; have p146 : 0 ≤ ((rd (rd_L3 l2 x22_2) 0) : Int) := of_decide_eq_true (by first | (with_reducible assumption) | assumption); have q146 : (rd (rd_L3 l2 x22_2) 0) < (l1.length : Int) := of_decide_eq_true (by first | (with_reducible assumption) | assumption); obtain ⟨ad146, e146, hx146_0, hx146_1⟩ := at_T25 HR1.out (rd (rd_L3 l2 x22_2) 0) p146 q146; have hw146_1 := hx146_1; have hw146_0 := hx146_0; cases e146; (try replace hx146_0 := (HB.out.cell (World.block_lt_of_cell? w _ hx146_0)).trans hx146_0); (try replace hx146_1 := (HB.out.cell (World.block_lt_of_cell? w _ hx146_1)).trans hx146_1); replace p146 := eq_true p146; replace q146 := eq_true q146; have p147 : 0 ≤ (1 : Int) := (by omega); have q147 : 1 < ((rd_L3 l2 x22_2).length : Int) := of_decide_eq_true (by first | (with_reducible assumption) | assumption); obtain ⟨ad147, e147, hx147_0⟩ := Kd.at_int HR144_0.out 1 p147 q147; have hw147_0 := hx147_0; (try rw [show ((1 : Int)).toNat = 1 from rfl] at hw147_0); (try rw [show 1 * 1 = 1 from rfl] at hw147_0); (try simp only [Nat.reduceMul, Nat.reduceEqDiff, Go.Addr.add, ↓reduceIte] at hw147_0); obtain rfl : ad145 = ad147 := (by injection e147); (try simp only [show (1 : Int).toNat = 1 from rfl, Nat.reduceMul, Nat.reduceEqDiff, Go.Addr.add, ↓reduceIte] at hx147_0); have qi147 : (1 < (rd_L3 l2 x22_2).length) = True := eq_true (by omega); (try rw [show ((1 : Int)).toNat = 1 from rfl] at hx147_0); (try replace hx147_0 := (HB.out.cell (World.block_lt_of_cell? w _ hx147_0)).trans hx147_0); replace p147 := eq_true p147; replace q147 := eq_true q147; have p148 : 0 ≤ ((rd (rd_L3 l2 x22_2) 1) : Int) := of_decide_eq_true (by first | (with_reducible assumption) | assumption); have q148 : (rd (rd_L3 l2 x22_2) 1) < (l1.length : Int) := of_decide_eq_true (by first | (with_reducible assumption) | assumption); obtain ⟨ad148, e148, hx148_0, hx148_1⟩ := at_T25 HR1.out (rd (rd_L3 l2 x22_2) 1) p148 q148; have hw148_1 := hx148_1; have hw148_0 := hx148_0; obtain rfl : ad146 = ad148 := (by injection e148); (try replace hx148_0 := (HB.out.cell (World.block_lt_of_cell? w _ hx148_0)).trans hx148_0); (try replace hx148_1 := (HB.out.cell (World.block_lt_of_cell? w _ hx148_1)).trans hx148_1); replace p148 := eq_true p148; replace q148 := eq_true q148; have p149 : 0 ≤ (2 : Int) := (by omega); have q149 : 2 < ((rd_L3 l2 x22_2).length : Int) := of_decide_eq_true (by first | (with_reducible assumption) | assumption); obtain ⟨ad149, e149, hx149_0⟩ := Kd.at_int HR144_0.out 2 p149 q149; have hw149_0 := hx149_0; (try rw [show ((2 : Int)).toNat = 2 from rfl] at hw149_0); (try rw [show 2 * 1 = 2 from rfl] at hw149_0); (try simp only [Nat.reduceMul, Nat.reduceEqDiff, Go.Addr.add, ↓reduceIte] at hw149_0); obtain rfl : ad145 = ad149 := (by injection e149); (try simp only [show (2 : Int).toNat = 2 from rfl, Nat.reduceMul, Nat.reduceEqDiff, Go.Addr.add, ↓reduceIte] at hx149_0); have qi149 : (2 < (rd_L3 l2 x22_2).length) = True := eq_true (by omega); (try rw [show ((2 : Int)).toNat = 2 from rfl] at hx149_0); (try replace hx149_0 := (HB.out.cell (World.block_lt_of_cell? w _ hx149_0)).trans hx149_0); replace p149 := eq_true p149; replace q149 := eq_true q149; have p150 : 0 ≤ ((rd (rd_L3 l2 x22_2) 2) : Int) := of_decide_eq_true (by first | (with_reducible assumption) | assumption); have q150 : (rd (rd_L3 l2 x22_2) 2) < (l1.length : Int) := of_decide_eq_true (by first | (with_reducible assumption) | assumption); obtain ⟨ad150, e150, hx150_0, hx150_1⟩ := at_T25 HR1.out (rd (rd_L3 l2 x22_2) 2) p150 q150; have hw150_1 := hx150_1; have hw150_0 := hx150_0; obtain rfl : ad146 = ad150 := (by injection e150); (try replace hx150_0 := (HB.out.cell (World.block_lt_of_cell? w _ hx150_0)).trans hx150_0); (try replace hx150_1 := (HB.out.cell (World.block_lt_of_cell? w _ hx150_1)).trans hx150_1); replace p150 := eq_true p150; replace q150 := eq_true q150; refine start_ (n := 20) (S := fun w' => w'.cell? ad145 = some (.int .i64 (rd (rd_L3 l2 x22_2) 0)) ∧ w'.cell? (ad146.add (((rd (rd_L3 l2 x22_2) 0)).toNat * 2)) = some (.int .i64 ((rd_T25 l1 (rd (rd_L3 l2 x22_2) 0)).f0)) ∧ w'.cell? ⟨(ad146.add (((rd (rd_L3 l2 x22_2) 0)).toNat * 2)).block, (ad146.add (((rd (rd_L3 l2 x22_2) 0)).toNat * 2)).off + 1, none⟩ = some (.int .i64 ((rd_T25 l1 (rd (rd_L3 l2 x22_2) 0)).f1)) ∧ w'.cell? ⟨ad145.block, ad145.off + 1, none⟩ = some (.int .i64 (rd (rd_L3 l2 x22_2) 1)) ∧ w'.cell? (ad146.add (((rd (rd_L3 l2 x22_2) 1)).toNat * 2)) = some (.int .i64 ((rd_T25 l1 (rd (rd_L3 l2 x22_2) 1)).f0)) ∧ w'.cell? ⟨(ad146.add (((rd (rd_L3 l2 x22_2) 1)).toNat * 2)).block, (ad146.add (((rd (rd_L3 l2 x22_2) 1)).toNat * 2)).off + 1, none⟩ = some (.int .i64 ((rd_T25 l1 (rd (rd_L3 l2 x22_2) 1)).f1)) ∧ w'.cell? ⟨ad145.block, ad145.off + 2, none⟩ = some (.int .i64 (rd (rd_L3 l2 x22_2) 2)) ∧ w'.cell? (ad146.add (((rd (rd_L3 l2 x22_2) 2)).toNat * 2)) = some (.int .i64 ((rd_T25 l1 (rd (rd_L3 l2 x22_2) 2)).f0)) ∧ w'.cell? ⟨(ad146.add (((rd (rd_L3 l2 x22_2) 2)).toNat * 2)).block, (ad146.add (((rd (rd_L3 l2 x22_2) 2)).toNat * 2)).off + 1, none⟩ = some (.int .i64 ((rd_T25 l1 (rd (rd_L3 l2 x22_2) 2)).f1))) (ds := []) (qE_ 20 impl_CountRainbows.od0 0) (by kernel_rfl) rfl rfl ⟨((HB.out.cell (World.block_lt_of_cell? w _ hw145_0)).trans hw145_0), ((HB.out.cell (World.block_lt_of_cell? w _ hw146_0)).trans hw146_0), ((HB.out.cell (World.block_lt_of_cell? w _ hw146_1)).trans hw146_1), ((HB.out.cell (World.block_lt_of_cell? w _ hw147_0)).trans hw147_0), ((HB.out.cell (World.block_lt_of_cell? w _ hw148_0)).trans hw148_0), ((HB.out.cell (World.block_lt_of_cell? w _ hw148_1)).trans hw148_1), ((HB.out.cell (World.block_lt_of_cell? w _ hw149_0)).trans hw149_0), ((HB.out.cell (World.block_lt_of_cell? w _ hw150_0)).trans hw150_0), ((HB.out.cell (World.block_lt_of_cell? w _ hw150_1)).trans hw150_1)⟩ (fun hHeld => ?_); refine with_tabW impl_CountRainbows.tab7 impl_CountRainbows.bits7 (fun HT_ HW_ => ?_); generalize wr.drew = w28 at HB hx145_0 hx146_0 hx146_1 hx147_0 hx148_0 hx148_1 hx149_0 hx150_0 hx150_1 hHeld ⊢; iterate 19 (first | (refine gz_ HT_ ?zy ?zp ?_ (v := ?_) (a' := ?_); (case zy => intro w'; go_simp; with_reducible rfl); (case zp => simp only [Act.put, List.setIfInBounds_toArray, List.set_cons_zero, List.set_cons_succ, i64_w, i32_w]; rfl)) | (refine gt_ HT_ HW_ hHeld ?zy ?zp ?_ (v := ?_) (a' := ?_); (case zy => rintro w' ⟨s0, s1, s2, s3, s4, s5, s6, s7, s8⟩; go_simp; with_reducible rfl); (case zp => simp only [Act.put, List.setIfInBounds_toArray, List.set_cons_zero, List.set_cons_succ, i64_w, i32_w]; rfl)))
                   refine one_ (i := 19) (N := some 45) (qE_ 20 impl_CountRainbows.od0 20) rfl rfl (one_of HT_.out (by kernel_rfl)) (by decide) (fun K hK => ?_); refine goes_ Try.func11 (by kernel_rfl) rfl #[.int .i64 a0, .agg #[.int .i64 ((rd_T25 l1 (rd (rd_L3 l2 x22_2) 0)).f0), .int .i64 ((rd_T25 l1 (rd (rd_L3 l2 x22_2) 0)).f1)], .agg #[.int .i64 ((rd_T25 l1 (rd (rd_L3 l2 x22_2) 1)).f0), .int .i64 ((rd_T25 l1 (rd (rd_L3 l2 x22_2) 1)).f1)], .agg #[.int .i64 ((rd_T25 l1 (rd (rd_L3 l2 x22_2) 2)).f0), .int .i64 ((rd_T25 l1 (rd (rd_L3 l2 x22_2) 2)).f1)]] (by rfl) rfl rfl (by (try simp only [List.map_toArray, List.map_cons, List.map_nil]); first | done | rfl | (simp only [List.length_drop, List.length_take]; rfl)) ?_; with_reducible refine (impl_IsRainbow.calls k2 a0 ((rd_T25 l1 (rd (rd_L3 l2 x22_2) 0)).f0) ((rd_T25 l1 (rd (rd_L3 l2 x22_2) 0)).f1) ((rd_T25 l1 (rd (rd_L3 l2 x22_2) 1)).f0) ((rd_T25 l1 (rd (rd_L3 l2 x22_2) 1)).f1) ((rd_T25 l1 (rd (rd_L3 l2 x22_2) 2)).f0) ((rd_T25 l1 (rd (rd_L3 l2 x22_2) 2)).f1) false _ A24.out).mono ?_; rintro e w29 ⟨rfl, hb⟩
                   refine ⟨_, rfl, ?_⟩; have n0_ := Aside0.mk (below_step HB.out hb); clear HB; have HB := n0_; clear n0_; (try clear hb); (try clear hb2); (try clear hk); (try clear hi); refine hK.out _ _ ⟨((HB.out.cell (World.block_lt_of_cell? w _ hw145_0)).trans hw145_0), ((HB.out.cell (World.block_lt_of_cell? w _ hw146_0)).trans hw146_0), ((HB.out.cell (World.block_lt_of_cell? w _ hw146_1)).trans hw146_1), ((HB.out.cell (World.block_lt_of_cell? w _ hw147_0)).trans hw147_0), ((HB.out.cell (World.block_lt_of_cell? w _ hw148_0)).trans hw148_0), ((HB.out.cell (World.block_lt_of_cell? w _ hw148_1)).trans hw148_1), ((HB.out.cell (World.block_lt_of_cell? w _ hw149_0)).trans hw149_0), ((HB.out.cell (World.block_lt_of_cell? w _ hw150_0)).trans hw150_0), ((HB.out.cell (World.block_lt_of_cell? w _ hw150_1)).trans hw150_1)⟩ (fun hHeld => ?_); clear hK K; refine norm_ (a' := ?_) ?_ ?_; rotate_left
                   ·show Act.put _ (some 45) _ = _
                    simp only [Act.put, List.setIfInBounds_toArray, List.set_cons_zero, List.set_cons_succ, i64_w, i32_w]; rfl
                   refine done_ (done_of HT_.out (by kernel_rfl)) ?_; try go_wp2; go_roundg k2
                   case measure => have := HJ3.out; have := HK2.out; omega
                   case rel => exact ⟨(x7_2), (wrap64 (x22_2 + 1)), (by first | rfl | (simp; done) | (simp [*]; done)), (by first | rfl | (simp; done) | (simp [*]; done)), H', ⟨by have := HJ3.out; have := HK2.out; omega⟩, ⟨by repeat (first | (with_reducible first | exact HB.out | apply below_alloc | apply pw_below_drewN | apply below_drew1) | exact HB.out)⟩⟩
                 ·rw [if_neg c23] at H
                  exact absurd H (by simp)
                ·rw [if_neg c22] at H
                 exact absurd H (by simp)
               ·rw [if_neg c21] at H
                exact absurd H (by simp)
              ·rw [if_neg c20] at H
               exact absurd H (by simp)
             ·rw [if_neg c19] at H
              exact absurd H (by simp)
            ·rw [if_neg c18] at H
             exact absurd H (by simp)
           ·rw [if_neg c17] at H
            exact absurd H (by simp)
          ·rw [if_neg c16] at H
           exact absurd H (by simp)
         ·rw [if_neg c15] at H
          exact absurd H (by simp)
        ·rw [if_neg c14] at H
         exact absurd H (by simp)
       ·rw [if_neg c13] at H
        exact absurd H (by simp)
      ·rw [if_neg c12] at H
       have c12b0 : decide (x22_2 < (l2.length : Int)) = false := decide_eq_false c12; clear c12; obtain rfl := Option.some.inj H; go_wp2; go_ret
       exact ⟨by first | rfl | (simp <;> rfl), by repeat (first | (with_reducible first | exact HB.out | apply below_alloc | apply pw_below_drewN | apply below_drew1) | exact HB.out)⟩

/-! ### impl_RectangleOf: function 19 -/
def impl_RectangleOf.f (a0 : Int) (a1 : Int) : Option ((List (S25))) := (impl_within.f a0 1 40).bind fun t101 => (if t101 = true then ((impl_within.f a1 1 40).bind fun t102 => (if t102 = true then (some (([(⟨0, 0⟩ : S25), (⟨a0, 0⟩ : S25), (⟨a0, a1⟩ : S25), (⟨0, a1⟩ : S25)] : List (S25)))) else (some ([] : List (S25))))) else (some ([] : List (S25))))
set_option maxHeartbeats 8000000 in
set_option maxRecDepth 100000 in
theorem impl_RectangleOf.calls (a0 : Int) (a1 : Int) (r : List (S25)) (w : World) (h : impl_RectangleOf.f a0 a1 = some r) :
  Calls Try.prog 19 #[.int .i64 a0, .int .i64 a1] w fun e w' => ∃ v0_ : Value, e = .returned (v0_) ∧ Kd.R k25 25 w' w.heap.size (fun _ => True) v0_ r ∧ Below w.heap.size w w' := by
 have hu25 := Try.underlying25
 have HB := Aside0.mk (Below.refl w.heap.size w)
 have H : ((impl_within.f a0 1 40).bind fun t101 => (if t101 = true then ((impl_within.f a1 1 40).bind fun t102 => (if t102 = true then (some (([(⟨0, 0⟩ : S25), (⟨a0, 0⟩ : S25), (⟨a0, a1⟩ : S25), (⟨0, a1⟩ : S25)] : List (S25)))) else (some ([] : List (S25))))) else (some ([] : List (S25))))) = some r := h
 clear h
 replace H := Option.bind_eq_some_iff.mp H
 obtain ⟨t101, A30, H⟩ := H
 replace H : (if t101 = true then ((impl_within.f a1 1 40).bind fun t102 => (if t102 = true then (some (([(⟨0, 0⟩ : S25), (⟨a0, 0⟩ : S25), (⟨a0, a1⟩ : S25), (⟨0, a1⟩ : S25)] : List (S25)))) else (some ([] : List (S25))))) else (some ([] : List (S25)))) = some r := H
 have A3 := Aside0.mk A30
 clear A30
 by_cases c4 : t101 = true
 ·subst c4
  have H1 : ((impl_within.f a1 1 40).bind fun t102 => (if t102 = true then (some (([(⟨0, 0⟩ : S25), (⟨a0, 0⟩ : S25), (⟨a0, a1⟩ : S25), (⟨0, a1⟩ : S25)] : List (S25)))) else (some ([] : List (S25))))) = some r := by rw [if_pos rfl] at H; exact H
  clear H; have H := H1; clear H1; replace H := Option.bind_eq_some_iff.mp H; obtain ⟨t102, A50, H⟩ := H; replace H : (if t102 = true then (some (([(⟨0, 0⟩ : S25), (⟨a0, 0⟩ : S25), (⟨a0, a1⟩ : S25), (⟨0, a1⟩ : S25)] : List (S25)))) else (some ([] : List (S25)))) = some r := H; have A5 := Aside0.mk A50; clear A50; by_cases c6 : t102 = true
  ·subst c6
   have H1 : (some (([(⟨0, 0⟩ : S25), (⟨a0, 0⟩ : S25), (⟨a0, a1⟩ : S25), (⟨0, a1⟩ : S25)] : List (S25)))) = some r := by rw [if_pos rfl] at H; exact H
   clear H; have H := H1; clear H1; obtain ⟨y103, hy103⟩ : ∃ y_ : List (S25), y_ = (([(⟨0, 0⟩ : S25), (⟨a0, 0⟩ : S25), (⟨a0, a1⟩ : S25), (⟨0, a1⟩ : S25)] : List (S25))) := ⟨_, rfl⟩; replace H : (some y103) = some r := by first | (rw [hy103]; with_reducible exact H) | (have H2_ := (Option.bind_some _ _).symm.trans H; rw [hy103]; with_reducible exact H2_) | (have H2_ := (Option.bind_some _ _).symm.trans H; with_reducible exact H2_) | with_reducible exact H | (rw [hy103]; exact H) | exact H
   have Ny103 := Aside0.mk hy103; clear hy103; obtain rfl := Option.some.inj H; go_enter Try.func19, Try.ntmps19
   go_wp2_with (first | ((with_reducible refine gate_callee (f := 34) rfl ?_); refine goesL_ (some 6) rfl rfl Try.func34 (by kernel_rfl) rfl #[.int .i64 a0, .int .i64 1, .int .i64 40] rfl (by (try simp only [List.map_toArray, List.map_cons, List.map_nil]); first | done | rfl | (simp only [List.length_drop, List.length_take]; rfl)) ?_; (with_reducible refine (impl_within.calls a0 1 40 true _ A3.out).mono ?_); rintro e w' ⟨rfl, ⟨nd, rfl⟩⟩; refine ⟨_, rfl, ?_⟩) | (go_at_call 34; (with_reducible refine (impl_within.calls a1 1 40 true _ A5.out).mono ?_); rintro e w' ⟨rfl, ⟨nd, rfl⟩⟩) | ((with_reducible refine gate_dst (N := 21) rfl ?_); refine Kd.R_lit k25 _ 25 ?hg (N := 21) ?hd (xs := ([(⟨0, 0⟩ : S25), (⟨a0, 0⟩ : S25), (⟨a0, a1⟩ : S25), (⟨0, a1⟩ : S25)] : List (S25))) (inner := [.int .i64 0, .int .i64 0, .int .i64 a0, .int .i64 0, .int .i64 a0, .int .i64 a1, .int .i64 0, .int .i64 a1]) (ok := fun _ => True) (okp := fun _ => True) ?hr ?hp (fun _ hk => hk) trivial (Below.refl _ _) (Nat.le_refl _) (by simp) ?_; (case hd => rfl); (case hg => rfl); (case hr => first | (go_simp; done) | (go_simp; rfl)); (case hp => exact (Reps.c2 (show Kd.M k25 _ _ _ (⟨0, 0⟩ : S25) [.int .i64 0, .int .i64 0] from (k25_mkM _ _ _ (⟨0, 0⟩ : S25) )) (Reps.c2 (show Kd.M k25 _ _ _ (⟨a0, 0⟩ : S25) [.int .i64 a0, .int .i64 0] from (k25_mkM _ _ _ (⟨a0, 0⟩ : S25) )) (Reps.c2 (show Kd.M k25 _ _ _ (⟨a0, a1⟩ : S25) [.int .i64 a0, .int .i64 a1] from (k25_mkM _ _ _ (⟨a0, a1⟩ : S25) )) (Reps.c2 (show Kd.M k25 _ _ _ (⟨0, a1⟩ : S25) [.int .i64 0, .int .i64 a1] from (k25_mkM _ _ _ (⟨0, a1⟩ : S25) )) (Reps.none _ _)))))); intro v104 w7 ho8 hb hg_ hnew_; clear hg_ hnew_; (first | rw [← Ny103.out] at ho8 | (simp only [Int.reduceToNat] at ho8; rw [← Ny103.out] at ho8)); have n0_ := Aside0.mk (Kd.R_lower ho8 (below_size (by repeat (first | (with_reducible first | exact HB.out | apply below_alloc | apply pw_below_drewN | apply below_drew1) | exact HB.out)))); have n1_ := Aside0.mk (below_step (by repeat (first | (with_reducible first | exact HB.out | apply below_alloc | apply pw_below_drewN | apply below_drew1) | exact HB.out)) hb); clear HB; have HO105 := n0_; have HB := n1_; clear n0_ n1_; clear hb ho8))
   go_ret
   exact ⟨_, by first | rfl | (simp [errW_none, errW_some] <;> rfl) | (simp [*, errW_none, errW_some] <;> rfl), by (with_reducible repeat (first | apply Kd.R_alloc | apply Kd.R_drewN | apply Kd.R_drew)); exact HO105.out, by repeat (first | (with_reducible first | exact HB.out | apply below_alloc | apply pw_below_drewN | apply below_drew1) | exact HB.out)⟩
  ·replace c6 := Bool.eq_false_iff.mpr c6
   subst c6
   have H1 : (some ([] : List (S25))) = some r := by rw [if_neg (show ¬ (false = true) by decide)] at H; exact H
   clear H; have H := H1; clear H1; obtain rfl := Option.some.inj H; go_enter Try.func19, Try.ntmps19
   go_wp2_with (first | ((with_reducible refine gate_callee (f := 34) rfl ?_); refine goesL_ (some 6) rfl rfl Try.func34 (by kernel_rfl) rfl #[.int .i64 a0, .int .i64 1, .int .i64 40] rfl (by (try simp only [List.map_toArray, List.map_cons, List.map_nil]); first | done | rfl | (simp only [List.length_drop, List.length_take]; rfl)) ?_; (with_reducible refine (impl_within.calls a0 1 40 true _ A3.out).mono ?_); rintro e w' ⟨rfl, ⟨nd, rfl⟩⟩; refine ⟨_, rfl, ?_⟩) | (go_at_call 34; (with_reducible refine (impl_within.calls a1 1 40 false _ A5.out).mono ?_); rintro e w' ⟨rfl, ⟨nd, rfl⟩⟩))
   go_ret
   exact ⟨_, by first | rfl | (simp <;> rfl), by first | exact Kd.R_nil _ _ _ _ _ | exact Kd.N_nil _ _ _ _ _ | exact Kd.V_nil _ _ _ _ _ | exact Kd.Q_nil _ _ _ _ _ | exact Kd.S_nil _ _ _ _ _, by with_reducible repeat (first | exact HB.out | apply below_alloc | apply pw_below_drewN | apply below_drew1)⟩
 ·replace c4 := Bool.eq_false_iff.mpr c4
  subst c4
  have H1 : (some ([] : List (S25))) = some r := by rw [if_neg (show ¬ (false = true) by decide)] at H; exact H
  clear H; have H := H1; clear H1; obtain rfl := Option.some.inj H; go_enter Try.func19, Try.ntmps19
  go_wp2_with (first | ((with_reducible refine gate_callee (f := 34) rfl ?_); refine goesL_ (some 6) rfl rfl Try.func34 (by kernel_rfl) rfl #[.int .i64 a0, .int .i64 1, .int .i64 40] rfl (by (try simp only [List.map_toArray, List.map_cons, List.map_nil]); first | done | rfl | (simp only [List.length_drop, List.length_take]; rfl)) ?_; (with_reducible refine (impl_within.calls a0 1 40 false _ A3.out).mono ?_); rintro e w' ⟨rfl, ⟨nd, rfl⟩⟩; refine ⟨_, rfl, ?_⟩))
  go_ret
  exact ⟨_, by first | rfl | (simp <;> rfl), by first | exact Kd.R_nil _ _ _ _ _ | exact Kd.N_nil _ _ _ _ _ | exact Kd.V_nil _ _ _ _ _ | exact Kd.Q_nil _ _ _ _ _ | exact Kd.S_nil _ _ _ _ _, by with_reducible repeat (first | exact HB.out | apply below_alloc | apply pw_below_drewN | apply below_drew1)⟩

end Go.Proofs.Ytihnhpohbpfkmaa.XFnColors
