/- What functions of the program compute, as plain Lean functions, and that Go's calls come to just that: written by wip/tools/xprint.py for the law FnExactEqualCut. -/
import Derived.Test.YtihnhpohbpfkmaaXFnExactEqualCutx0
import Derived.Test.YtihnhpohbpfkmaaXFnExactEqualCutx1
import Derived.Test.YtihnhpohbpfkmaaXFnExactEqualCutx3
import Derived.Test.YtihnhpohbpfkmaaXFnExactEqualCutx8
import Derived.Test.YtihnhpohbpfkmaaXFnExactEqualCutx9
namespace Go.Proofs.Ytihnhpohbpfkmaa.XFnExactEqualCut
open Go.RowKit Go.Proofs.YtihnhpohbpfkmaaW.PrintWords Go.Proofs.YtihnhpohbpfkmaaW.PrintLast Go.Proofs.YtihnhpohbpfkmaaW.PrintMore
attribute [local go_sem] max2_int min2_int max_two min_two max_three min_three max_four min_four   -- for this text's walks alone
set_option linter.unusedVariables false
set_option linter.unusedSimpArgs false

attribute [local go_sem high] eqA25
/-! ### spec_PolygonOk: function 51 -/
mutual
def spec_PolygonOk.l0 : Nat → List (S25) → List (S25) → Int → Int → Option (Bool)
 | 0, _, _, _, _ => none
 | k + 1, x0, x14, x15, x16 => if x16 < x15 then (if 0 ≤ x16 then (if x16 < (x14.length : Int) then ((spec_PointOk.f ((rd_T25 x14 x16).f0) ((rd_T25 x14 x16).f1)).bind fun t248 => (if t248 = true then (spec_PolygonOk.l0 k x0 x14 x15 (wrap64 (x16 + 1))) else (some false))) else (none)) else (none)) else (spec_PolygonOk.l1 k x0 (x0.length : Int) (x0.length : Int) 0)
def spec_PolygonOk.l1 : Nat → List (S25) → Int → Int → Int → Option (Bool)
 | 0, _, _, _, _ => none
 | k + 1, x0, x5, x27, x28 => if x28 < x27 then (if 0 ≤ x28 then (if x28 < (x0.length : Int) then (if x5 = 0 then (none) else (if 0 ≤ (Int.tmod (wrap64 (x28 + 1)) x5) then (if (Int.tmod (wrap64 (x28 + 1)) x5) < (x0.length : Int) then (if (((rd_T25 x0 x28).f0) == ((rd_T25 x0 (Int.tmod (wrap64 (x28 + 1)) x5)).f0) && (((rd_T25 x0 x28).f1) == ((rd_T25 x0 (Int.tmod (wrap64 (x28 + 1)) x5)).f1))) = true then (some false) else (spec_PolygonOk.l1 k x0 x5 x27 (wrap64 (x28 + 1)))) else (none)) else (none))) else (none)) else (none)) else (spec_PolygonOk.l2 k x0 x5 (x0.length : Int) 0)
def spec_PolygonOk.l2 : Nat → List (S25) → Int → Int → Int → Option (Bool)
 | 0, _, _, _, _ => none
 | k + 1, x0, x5, x45, x46 => if x46 < x45 then (spec_PolygonOk.l3 k x0 x5 x46 (wrap64 (x46 + 1)) x45 x46) else (some true)
def spec_PolygonOk.l3 : Nat → List (S25) → Int → Int → Int → Int → Int → Option (Bool)
 | 0, _, _, _, _, _, _ => none
 | k + 1, x0, x5, x7, x8, x45, x46 => if x8 < x5 then (if 0 ≤ x7 then (if x7 < (x0.length : Int) then (if x5 = 0 then (none) else (if 0 ≤ (Int.tmod (wrap64 (x7 + 1)) x5) then (if (Int.tmod (wrap64 (x7 + 1)) x5) < (x0.length : Int) then (if 0 ≤ x8 then (if x8 < (x0.length : Int) then (if 0 ≤ (Int.tmod (wrap64 (x8 + 1)) x5) then (if (Int.tmod (wrap64 (x8 + 1)) x5) < (x0.length : Int) then ((spec_l02Meet.f k ((rd_T25 x0 x7).f0) ((rd_T25 x0 x7).f1) ((rd_T25 x0 (Int.tmod (wrap64 (x7 + 1)) x5)).f0) ((rd_T25 x0 (Int.tmod (wrap64 (x7 + 1)) x5)).f1) ((rd_T25 x0 x8).f0) ((rd_T25 x0 x8).f1) ((rd_T25 x0 (Int.tmod (wrap64 (x8 + 1)) x5)).f0) ((rd_T25 x0 (Int.tmod (wrap64 (x8 + 1)) x5)).f1)).bind fun t255 => (if x8 = (wrap64 (x7 + 1)) then (spec_PolygonOk.j4 k x0 x5 x7 x8 t255 x45 x46 true) else (if x7 = 0 then (spec_PolygonOk.j4 k x0 x5 x7 x8 t255 x45 x46 (x8 == (wrap64 (x5 - 1)))) else (spec_PolygonOk.j4 k x0 x5 x7 x8 t255 x45 x46 false)))) else (none)) else (none)) else (none)) else (none)) else (none)) else (none))) else (none)) else (none)) else (spec_PolygonOk.l2 k x0 x5 x45 (wrap64 (x46 + 1)))
def spec_PolygonOk.j4 : Nat → List (S25) → Int → Int → Int → Int → Int → Int → Bool → Option (Bool)
 | 0, _, _, _, _, _, _, _, _ => none
 | k + 1, x0, x5, x7, x8, x9, x45, x46, x92 => if x92 = true then (if x9 = 1 then (spec_PolygonOk.l3 k x0 x5 x7 (wrap64 (x8 + 1)) x45 x46) else (some false)) else (if x9 = 0 then (spec_PolygonOk.l3 k x0 x5 x7 (wrap64 (x8 + 1)) x45 x46) else (some false))
end
def spec_PolygonOk.f (k : Nat) (l0 : List (S25)) : Option (Bool) := (spec_l01In.f (l0.length : Int) 3 10).bind fun t245 => (if t245 = true then (spec_PolygonOk.l0 k l0 l0 (l0.length : Int) 0) else (some false))
theorem spec_PolygonOk.mono_l : ∀ k, (∀ y0 y1 y2 y3, LeO (spec_PolygonOk.l0 k y0 y1 y2 y3) (spec_PolygonOk.l0 (k + 1) y0 y1 y2 y3)) ∧ (∀ y0 y1 y2 y3, LeO (spec_PolygonOk.l1 k y0 y1 y2 y3) (spec_PolygonOk.l1 (k + 1) y0 y1 y2 y3)) ∧ (∀ y0 y1 y2 y3, LeO (spec_PolygonOk.l2 k y0 y1 y2 y3) (spec_PolygonOk.l2 (k + 1) y0 y1 y2 y3)) ∧ (∀ y0 y1 y2 y3 y4 y5, LeO (spec_PolygonOk.l3 k y0 y1 y2 y3 y4 y5) (spec_PolygonOk.l3 (k + 1) y0 y1 y2 y3 y4 y5)) ∧ (∀ y0 y1 y2 y3 y4 y5 y6 y7, LeO (spec_PolygonOk.j4 k y0 y1 y2 y3 y4 y5 y6 y7) (spec_PolygonOk.j4 (k + 1) y0 y1 y2 y3 y4 y5 y6 y7))
 | 0 => ⟨fun _ _ _ _ r h => by simp [spec_PolygonOk.l0] at h, fun _ _ _ _ r h => by simp [spec_PolygonOk.l1] at h, fun _ _ _ _ r h => by simp [spec_PolygonOk.l2] at h, fun _ _ _ _ _ _ r h => by simp [spec_PolygonOk.l3] at h, fun _ _ _ _ _ _ _ _ r h => by simp [spec_PolygonOk.j4] at h⟩
 | k + 1 => by
  obtain ⟨ih0, ih1, ih2, ih3, ih4⟩ := spec_PolygonOk.mono_l k; refine ⟨?_, ?_, ?_, ?_, ?_⟩
  ·intro y0 y1 y2 y3
   unfold spec_PolygonOk.l0
   repeat' first
   | (with_reducible exact ih0 _ _ _ _)
   | (with_reducible exact ih1 _ _ _ _)
   | (with_reducible exact ih2 _ _ _ _)
   | (with_reducible exact ih3 _ _ _ _ _ _)
   | (with_reducible exact ih4 _ _ _ _ _ _ _ _)
   | (with_reducible exact spec_l02Meet.mono _ _ _ _ _ _ _ _ _)
   | (with_reducible exact LeO.refl _)
   | (with_reducible exact LeO.none _)
   | (with_reducible refine LeO.ite ?_ ?_)
   | (with_reducible refine LeO.bind ?_ (fun _ => ?_))
   | exact ih0 _ _ _ _
   | exact ih1 _ _ _ _
   | exact ih2 _ _ _ _
   | exact ih3 _ _ _ _ _ _
   | exact ih4 _ _ _ _ _ _ _ _
   | exact spec_l02Meet.mono _ _ _ _ _ _ _ _ _
   | exact LeO.none _
   | refine LeO.ite ?_ ?_
   | refine LeO.bind ?_ (fun _ => ?_)
  ·intro y0 y1 y2 y3
   unfold spec_PolygonOk.l1
   repeat' first
   | (with_reducible exact ih0 _ _ _ _)
   | (with_reducible exact ih1 _ _ _ _)
   | (with_reducible exact ih2 _ _ _ _)
   | (with_reducible exact ih3 _ _ _ _ _ _)
   | (with_reducible exact ih4 _ _ _ _ _ _ _ _)
   | (with_reducible exact spec_l02Meet.mono _ _ _ _ _ _ _ _ _)
   | (with_reducible exact LeO.refl _)
   | (with_reducible exact LeO.none _)
   | (with_reducible refine LeO.ite ?_ ?_)
   | (with_reducible refine LeO.bind ?_ (fun _ => ?_))
   | exact ih0 _ _ _ _
   | exact ih1 _ _ _ _
   | exact ih2 _ _ _ _
   | exact ih3 _ _ _ _ _ _
   | exact ih4 _ _ _ _ _ _ _ _
   | exact spec_l02Meet.mono _ _ _ _ _ _ _ _ _
   | exact LeO.none _
   | refine LeO.ite ?_ ?_
   | refine LeO.bind ?_ (fun _ => ?_)
  ·intro y0 y1 y2 y3
   unfold spec_PolygonOk.l2
   repeat' first
   | (with_reducible exact ih0 _ _ _ _)
   | (with_reducible exact ih1 _ _ _ _)
   | (with_reducible exact ih2 _ _ _ _)
   | (with_reducible exact ih3 _ _ _ _ _ _)
   | (with_reducible exact ih4 _ _ _ _ _ _ _ _)
   | (with_reducible exact spec_l02Meet.mono _ _ _ _ _ _ _ _ _)
   | (with_reducible exact LeO.refl _)
   | (with_reducible exact LeO.none _)
   | (with_reducible refine LeO.ite ?_ ?_)
   | (with_reducible refine LeO.bind ?_ (fun _ => ?_))
   | exact ih0 _ _ _ _
   | exact ih1 _ _ _ _
   | exact ih2 _ _ _ _
   | exact ih3 _ _ _ _ _ _
   | exact ih4 _ _ _ _ _ _ _ _
   | exact spec_l02Meet.mono _ _ _ _ _ _ _ _ _
   | exact LeO.none _
   | refine LeO.ite ?_ ?_
   | refine LeO.bind ?_ (fun _ => ?_)
  ·intro y0 y1 y2 y3 y4 y5
   unfold spec_PolygonOk.l3
   repeat' first
   | (with_reducible exact ih0 _ _ _ _)
   | (with_reducible exact ih1 _ _ _ _)
   | (with_reducible exact ih2 _ _ _ _)
   | (with_reducible exact ih3 _ _ _ _ _ _)
   | (with_reducible exact ih4 _ _ _ _ _ _ _ _)
   | (with_reducible exact spec_l02Meet.mono _ _ _ _ _ _ _ _ _)
   | (with_reducible exact LeO.refl _)
   | (with_reducible exact LeO.none _)
   | (with_reducible refine LeO.ite ?_ ?_)
   | (with_reducible refine LeO.bind ?_ (fun _ => ?_))
   | exact ih0 _ _ _ _
   | exact ih1 _ _ _ _
   | exact ih2 _ _ _ _
   | exact ih3 _ _ _ _ _ _
   | exact ih4 _ _ _ _ _ _ _ _
   | exact spec_l02Meet.mono _ _ _ _ _ _ _ _ _
   | exact LeO.none _
   | refine LeO.ite ?_ ?_
   | refine LeO.bind ?_ (fun _ => ?_)
  ·intro y0 y1 y2 y3 y4 y5 y6 y7
   unfold spec_PolygonOk.j4
   repeat' first
   | (with_reducible exact ih0 _ _ _ _)
   | (with_reducible exact ih1 _ _ _ _)
   | (with_reducible exact ih2 _ _ _ _)
   | (with_reducible exact ih3 _ _ _ _ _ _)
   | (with_reducible exact ih4 _ _ _ _ _ _ _ _)
   | (with_reducible exact spec_l02Meet.mono _ _ _ _ _ _ _ _ _)
   | (with_reducible exact LeO.refl _)
   | (with_reducible exact LeO.none _)
   | (with_reducible refine LeO.ite ?_ ?_)
   | (with_reducible refine LeO.bind ?_ (fun _ => ?_))
   | exact ih0 _ _ _ _
   | exact ih1 _ _ _ _
   | exact ih2 _ _ _ _
   | exact ih3 _ _ _ _ _ _
   | exact ih4 _ _ _ _ _ _ _ _
   | exact spec_l02Meet.mono _ _ _ _ _ _ _ _ _
   | exact LeO.none _
   | refine LeO.ite ?_ ?_
   | refine LeO.bind ?_ (fun _ => ?_)
theorem spec_PolygonOk.mono : ∀ a0 k, LeO (spec_PolygonOk.f k a0) (spec_PolygonOk.f (k + 1) a0) := by
 intro a0 k
 obtain ⟨ih0, ih1, ih2, ih3, ih4⟩ := spec_PolygonOk.mono_l k
 unfold spec_PolygonOk.f
 repeat' first
  | (with_reducible exact ih0 _ _ _ _)
  | (with_reducible exact ih1 _ _ _ _)
  | (with_reducible exact ih2 _ _ _ _)
  | (with_reducible exact ih3 _ _ _ _ _ _)
  | (with_reducible exact ih4 _ _ _ _ _ _ _ _)
  | (with_reducible exact spec_l02Meet.mono _ _ _ _ _ _ _ _ _)
  | (with_reducible exact LeO.refl _)
  | (with_reducible exact LeO.none _)
  | (with_reducible refine LeO.ite ?_ ?_)
  | (with_reducible refine LeO.bind ?_ (fun _ => ?_))
  | exact ih0 _ _ _ _
  | exact ih1 _ _ _ _
  | exact ih2 _ _ _ _
  | exact ih3 _ _ _ _ _ _
  | exact ih4 _ _ _ _ _ _ _ _
  | exact spec_l02Meet.mono _ _ _ _ _ _ _ _ _
  | exact LeO.none _
  | refine LeO.ite ?_ ?_
  | refine LeO.bind ?_ (fun _ => ?_)
def spec_PolygonOk.T13 : Bool × List (List Nat × List Nat) := (true, [([], []), ([], []), ([0, 1], [0, 1]), ([2], [2]), ([], []), ([], []), ([5], [5]), ([], []), ([6, 7], [6, 7]), ([4, 8], [4, 8]), ([9], [9]), ([3, 10], [3, 10])])
def spec_PolygonOk.B13 : List Nat := [0, 0, 3, 7, 0, 0, 32, 0, 224, 496, 1008, 2047]
theorem spec_PolygonOk.tab13 : rtab .any (opsOf Try.f51 13) = spec_PolygonOk.T13 := by kernel_rfl
theorem spec_PolygonOk.bits13 : waitsOk spec_PolygonOk.T13.2 spec_PolygonOk.B13 = true := by kernel_rfl
def spec_PolygonOk.T22 : Bool × List (List Nat × List Nat) := (true, [([], []), ([], []), ([0, 1], [0, 1]), ([2], [2]), ([], []), ([], []), ([5], [5]), ([], []), ([6, 7], [6, 7]), ([4, 8], [4, 8]), ([9], [9]), ([], []), ([], []), ([11, 12], [11, 12]), ([13], [13]), ([], []), ([], []), ([16], [16]), ([], []), ([17, 18], [17, 18]), ([15, 19], [15, 19]), ([20], [20]), ([3, 10, 14, 21], [3, 10, 14, 21]), ([22, 22, 0, 1, 2, 3, 4, 5, 6, 7, 8, 9, 10, 11, 12, 13, 14, 15, 16, 17, 18, 19, 20, 21, 22], [22])])
def spec_PolygonOk.B22 : List Nat := [0, 0, 3, 7, 0, 0, 32, 0, 224, 496, 1008, 0, 0, 6144, 14336, 0, 0, 65536, 0, 458752, 1015808, 2064384, 4194303, 8388607]
theorem spec_PolygonOk.tab22 : rtab .any (opsOf Try.f51 22) = spec_PolygonOk.T22 := by kernel_rfl
theorem spec_PolygonOk.bits22 : waitsOk spec_PolygonOk.T22.2 spec_PolygonOk.B22 = true := by kernel_rfl
def spec_PolygonOk.qB (n m : Nat) : Array Bool := ((List.range n).map fun j => m.testBit j).toArray
def spec_PolygonOk.od0 : List Nat := [0, 1, 2, 4, 5, 6, 7, 8, 9, 3, 10, 11]
def spec_PolygonOk.od1 : List Nat := [0, 1, 2, 4, 5, 6, 7, 8, 9, 11, 12, 13, 15, 16, 17, 18, 19, 20, 3, 10, 14, 21, 22, 23]
set_option maxHeartbeats 8000000 in
set_option maxRecDepth 100000 in
theorem spec_PolygonOk.calls (k : Nat) (A0 : Option Addr) (c0 : Nat) (l0 : List (S25)) (r : Bool) (w : World) (hr0 : Kd.C k25 w A0 l0.length l0) (hc0 : l0.length ≤ c0) (h : spec_PolygonOk.f k l0 = some r) :
    Calls Try.prog 51 #[.slice A0 l0.length c0] w fun e w' => e = .returned (.bool r) ∧ Below w.heap.size w w' := by
 have hu25 := Try.underlying25
 have HR0 := Aside0.mk hr0
 have HC0 := Aside0.mk hc0
 clear hr0 hc0
 have HB := Aside0.mk (Below.refl w.heap.size w)
 have H : ((spec_l01In.f (l0.length : Int) 3 10).bind fun t245 => (if t245 = true then (spec_PolygonOk.l0 k l0 l0 (l0.length : Int) 0) else (some false))) = some r := h
 clear h
 replace H := Option.bind_eq_some_iff.mp H
 obtain ⟨t245, A20, H⟩ := H
 replace H : (if t245 = true then (spec_PolygonOk.l0 k l0 l0 (l0.length : Int) 0) else (some false)) = some r := H
 have A2 := Aside0.mk A20
 clear A20
 by_cases c3 : t245 = true
 ·subst c3
  have H1 : (spec_PolygonOk.l0 k l0 l0 (l0.length : Int) 0) = some r := by rw [if_pos rfl] at H; exact H
  clear H; have H := H1; clear H1; have H' := Aside0.mk H; clear H; go_enter Try.func51, Try.ntmps51
  go_wp2_with (first | ((with_reducible refine gate_callee (f := 80) rfl ?_); refine goesL_ (some 12) rfl rfl Try.func80 (by kernel_rfl) rfl #[.int .i64 (l0.length : Int), .int .i64 3, .int .i64 10] rfl (by (try simp only [List.map_toArray, List.map_cons, List.map_nil]); first | done | rfl | (simp only [List.length_drop, List.length_take]; rfl)) ?_; (with_reducible refine (spec_l01In.calls (l0.length : Int) 3 10 true _ A2.out).mono ?_); rintro e w' ⟨rfl, ⟨nd, rfl⟩⟩; refine ⟨_, rfl, ?_⟩))
  go_loopg [16] k (fun kq v16 w' => ∃ (x16_1 : Int), v16 = .int .i64 x16_1 ∧ Aside0 (spec_PolygonOk.l0 kq l0 l0 (l0.length : Int) x16_1 = some r) ∧ Aside0 (kq ≤ k) ∧ Aside0 (Below w.heap.size w w'))
  case atStart => exact ⟨(0), rfl, H', ⟨Nat.le_refl _⟩, ⟨by with_reducible repeat (first | exact HB.out | apply below_alloc | apply pw_below_drewN | apply below_drew1)⟩⟩
  case round =>
   clear H'; (try clear p2); (try clear c3); obtain ⟨x16_1, rfl, HA, HK1, HB⟩ := hrel; cases gk with
   | zero => exact absurd HA.out (by simp [spec_PolygonOk.l0])
   | succ k1 =>
    have H := HA.out; clear HA; simp only [spec_PolygonOk.l0] at H; by_cases c4 : x16_1 < (l0.length : Int)
    ·rw [if_pos c4] at H
     have c4b0 : decide (x16_1 < (l0.length : Int)) = true := decide_eq_true c4; clear c4; by_cases c5 : 0 ≤ x16_1
     ·rw [if_pos c5] at H
      have c5b0 : decide (0 ≤ x16_1) = true := decide_eq_true c5; clear c5; by_cases c6 : x16_1 < (l0.length : Int)
      ·rw [if_pos c6] at H
       have c6b0 : decide (x16_1 < (l0.length : Int)) = true := decide_eq_true c6; clear c6; replace H := Option.bind_eq_some_iff.mp H; obtain ⟨t248, A70, H⟩ := H; replace H : (if t248 = true then (spec_PolygonOk.l0 k1 l0 l0 (l0.length : Int) (wrap64 (x16_1 + 1))) else (some false)) = some r := H; have A7 := Aside0.mk A70; clear A70; by_cases c8 : t248 = true
       ·subst c8
        have H1 : (spec_PolygonOk.l0 k1 l0 l0 (l0.length : Int) (wrap64 (x16_1 + 1))) = some r := by rw [if_pos rfl] at H; exact H
        clear H; have H := H1; clear H1; have H' := Aside0.mk H; clear H; have p246 : 0 ≤ (x16_1 : Int) := of_decide_eq_true (by first | (with_reducible assumption) | assumption); have q246 : x16_1 < (l0.length : Int) := of_decide_eq_true (by first | (with_reducible assumption) | assumption); obtain ⟨ad246, e246, hx246_0, hx246_1⟩ := at_T25 HR0.out x16_1 p246 q246; cases e246; (try replace hx246_0 := (HB.out.cell (World.block_lt_of_cell? w _ hx246_0)).trans hx246_0); (try replace hx246_1 := (HB.out.cell (World.block_lt_of_cell? w _ hx246_1)).trans hx246_1); replace p246 := eq_true p246; replace q246 := eq_true q246; go_wp2_with (first | ((with_reducible refine gate_dst (N := 4) rfl ?_); refine box_event ?hg (N := 4) ?hd (cs := #[.int .i64 0, .int .i64 0]) (t := 25) ?hr ?_; (case hd => rfl); (case hg => rfl); (case hr => first | (go_simp; done) | (go_simp; rfl)); intro gb247 hg w9 hbox hb; have n0_ := Aside0.mk (below_step (by repeat (first | (with_reducible first | exact HB.out | apply below_alloc | apply pw_below_drewN | apply below_drew1) | exact HB.out)) hb); have n1_ := Aside0.mk (hbox); have n2_ := Aside0.mk ((by rw [hg]; exact (below_size (by repeat (first | (with_reducible first | exact HB.out | apply below_alloc | apply pw_below_drewN | apply below_drew1) | exact HB.out))) : w.heap.size ≤ gb247)); have n3_ := Aside0.mk ((by rw [hg]; exact (below_size (by repeat (first | (with_reducible first | exact HB.out | apply below_alloc | apply pw_below_drewN | apply below_drew1) | exact HB.out))) : w.heap.size ≤ gb247)); clear HB; have HB := n0_; have BK247 := n1_; have GW247 := n2_; have GE247 := n3_; clear n0_ n1_ n2_ n3_; clear hb hbox hg; have hcz10_0 : w9.cell? ⟨gb247, 0, none⟩ = some (.int .i64 0) := (blk_cell BK247.out 0).trans rfl; have hcz10_1 : w9.cell? ⟨gb247, 1, none⟩ = some (.int .i64 0) := (blk_cell BK247.out 1).trans rfl; have hfz10_0 := blk_frozen BK247.out 0; have hfz10_1 := blk_frozen BK247.out 1) | ((with_reducible refine gate_callee (f := 81) rfl ?_); refine goesL_ (some 21) rfl rfl Try.func81 (by kernel_rfl) rfl #[.agg #[.int .i64 ((rd_T25 l0 x16_1).f0), .int .i64 ((rd_T25 l0 x16_1).f1)]] rfl (by (try simp only [List.map_toArray, List.map_cons, List.map_nil]); first | done | rfl | (simp only [List.length_drop, List.length_take]; rfl)) ?_; (with_reducible refine (spec_PointOk.calls ((rd_T25 l0 x16_1).f0) ((rd_T25 l0 x16_1).f1) true _ A7.out).mono ?_); rintro e w11 ⟨rfl, hb⟩; refine ⟨_, rfl, ?_⟩; have n0_ := Aside0.mk (blk_below (g := gb247) (o := .cells #[.int .i64 ((rd_T25 l0 x16_1).f0), .int .i64 ((rd_T25 l0 x16_1).f1)] 25 (0, 0)) (by (with_reducible repeat (first | refine blk_drewN ?_ _ | refine blk_drew ?_ | refine blk_alloc ?_ _)); refine blk_put (cs := #[.int .i64 ((rd_T25 l0 x16_1).f0), .int .i64 0]) ?_ 1 _ rfl; (with_reducible repeat (first | refine blk_drewN ?_ _ | refine blk_drew ?_ | refine blk_alloc ?_ _)); refine blk_put (cs := #[.int .i64 0, .int .i64 0]) ?_ 0 _ rfl; (with_reducible repeat (first | refine blk_drewN ?_ _ | refine blk_drew ?_ | refine blk_alloc ?_ _)); exact BK247.out) hb); have n1_ := Aside0.mk (below_step (by repeat (first | (with_reducible first | exact HB.out | apply below_alloc | apply pw_below_drewN | apply below_drew1 | refine below_set ?_ GE247.out) | exact HB.out)) hb); clear BK247; clear HB; have BK247 := n0_; have HB := n1_; clear n0_ n1_; (try clear hb); (try clear hb2); (try clear hk); (try clear hi)))
        go_roundg k1
        case measure => have := HK1.out; omega
        case rel => exact ⟨(wrap64 (x16_1 + 1)), rfl, H', ⟨by have := HK1.out; omega⟩, ⟨by repeat (first | (with_reducible first | exact HB.out | apply below_alloc | apply pw_below_drewN | apply below_drew1 | refine below_set ?_ GE247.out) | exact HB.out)⟩⟩
       ·replace c8 := Bool.eq_false_iff.mpr c8
        subst c8
        have H1 : (some false) = some r := by rw [if_neg (show ¬ (false = true) by decide)] at H; exact H
        clear H; have H := H1; clear H1; obtain rfl := Option.some.inj H; have p246 : 0 ≤ (x16_1 : Int) := of_decide_eq_true (by first | (with_reducible assumption) | assumption); have q246 : x16_1 < (l0.length : Int) := of_decide_eq_true (by first | (with_reducible assumption) | assumption); obtain ⟨ad246, e246, hx246_0, hx246_1⟩ := at_T25 HR0.out x16_1 p246 q246; cases e246; (try replace hx246_0 := (HB.out.cell (World.block_lt_of_cell? w _ hx246_0)).trans hx246_0); (try replace hx246_1 := (HB.out.cell (World.block_lt_of_cell? w _ hx246_1)).trans hx246_1); replace p246 := eq_true p246; replace q246 := eq_true q246; go_wp2_with (first | ((with_reducible refine gate_dst (N := 4) rfl ?_); refine box_event ?hg (N := 4) ?hd (cs := #[.int .i64 0, .int .i64 0]) (t := 25) ?hr ?_; (case hd => rfl); (case hg => rfl); (case hr => first | (go_simp; done) | (go_simp; rfl)); intro gb247 hg w12 hbox hb; have n0_ := Aside0.mk (below_step (by repeat (first | (with_reducible first | exact HB.out | apply below_alloc | apply pw_below_drewN | apply below_drew1) | exact HB.out)) hb); have n1_ := Aside0.mk (hbox); have n2_ := Aside0.mk ((by rw [hg]; exact (below_size (by repeat (first | (with_reducible first | exact HB.out | apply below_alloc | apply pw_below_drewN | apply below_drew1) | exact HB.out))) : w.heap.size ≤ gb247)); have n3_ := Aside0.mk ((by rw [hg]; exact (below_size (by repeat (first | (with_reducible first | exact HB.out | apply below_alloc | apply pw_below_drewN | apply below_drew1) | exact HB.out))) : w.heap.size ≤ gb247)); clear HB; have HB := n0_; have BK247 := n1_; have GW247 := n2_; have GE247 := n3_; clear n0_ n1_ n2_ n3_; clear hb hbox hg; have hcz13_0 : w12.cell? ⟨gb247, 0, none⟩ = some (.int .i64 0) := (blk_cell BK247.out 0).trans rfl; have hcz13_1 : w12.cell? ⟨gb247, 1, none⟩ = some (.int .i64 0) := (blk_cell BK247.out 1).trans rfl; have hfz13_0 := blk_frozen BK247.out 0; have hfz13_1 := blk_frozen BK247.out 1) | ((with_reducible refine gate_callee (f := 81) rfl ?_); refine goesL_ (some 21) rfl rfl Try.func81 (by kernel_rfl) rfl #[.agg #[.int .i64 ((rd_T25 l0 x16_1).f0), .int .i64 ((rd_T25 l0 x16_1).f1)]] rfl (by (try simp only [List.map_toArray, List.map_cons, List.map_nil]); first | done | rfl | (simp only [List.length_drop, List.length_take]; rfl)) ?_; (with_reducible refine (spec_PointOk.calls ((rd_T25 l0 x16_1).f0) ((rd_T25 l0 x16_1).f1) false _ A7.out).mono ?_); rintro e w14 ⟨rfl, hb⟩; refine ⟨_, rfl, ?_⟩; have n0_ := Aside0.mk (blk_below (g := gb247) (o := .cells #[.int .i64 ((rd_T25 l0 x16_1).f0), .int .i64 ((rd_T25 l0 x16_1).f1)] 25 (0, 0)) (by (with_reducible repeat (first | refine blk_drewN ?_ _ | refine blk_drew ?_ | refine blk_alloc ?_ _)); refine blk_put (cs := #[.int .i64 ((rd_T25 l0 x16_1).f0), .int .i64 0]) ?_ 1 _ rfl; (with_reducible repeat (first | refine blk_drewN ?_ _ | refine blk_drew ?_ | refine blk_alloc ?_ _)); refine blk_put (cs := #[.int .i64 0, .int .i64 0]) ?_ 0 _ rfl; (with_reducible repeat (first | refine blk_drewN ?_ _ | refine blk_drew ?_ | refine blk_alloc ?_ _)); exact BK247.out) hb); have n1_ := Aside0.mk (below_step (by repeat (first | (with_reducible first | exact HB.out | apply below_alloc | apply pw_below_drewN | apply below_drew1 | refine below_set ?_ GE247.out) | exact HB.out)) hb); clear BK247; clear HB; have BK247 := n0_; have HB := n1_; clear n0_ n1_; (try clear hb); (try clear hb2); (try clear hk); (try clear hi)))
        go_ret
        exact ⟨by first | rfl | (simp <;> rfl), by repeat (first | (with_reducible first | exact HB.out | apply below_alloc | apply pw_below_drewN | apply below_drew1 | refine below_set ?_ GE247.out) | exact HB.out)⟩
      ·rw [if_neg c6] at H
       exact absurd H (by simp)
     ·rw [if_neg c5] at H
      exact absurd H (by simp)
    ·rw [if_neg c4] at H
     have c4b0 : decide (x16_1 < (l0.length : Int)) = false := decide_eq_false c4; clear c4; have H' := Aside0.mk H; clear H; go_wp2
     go_loopg [28] k1 (fun kq v28 w' => ∃ (x28_2 : Int), v28 = .int .i64 x28_2 ∧ Aside0 (spec_PolygonOk.l1 kq l0 (l0.length : Int) (l0.length : Int) x28_2 = some r) ∧ Aside0 (kq ≤ k1) ∧ Aside0 (Below w.heap.size w w'))
     case atStart => exact ⟨(0), rfl, H', ⟨Nat.le_refl _⟩, ⟨by with_reducible repeat (first | exact HB.out | apply below_alloc | apply pw_below_drewN | apply below_drew1)⟩⟩
     case round =>
      clear H'; (try clear p2); (try clear q2); (try clear hx2); (try clear c3); (try clear c4); (try clear c4b0); (try clear c5); (try clear c5b0); (try clear c6); (try clear c6b0); (try clear p6); (try clear c8); (try clear hcz10_0); (try clear hcz10_1); (try clear hcz13_0); (try clear hcz13_1); (try clear hfz10_0); (try clear hfz10_1); (try clear hfz13_0); (try clear hfz13_1); (try clear hx246_0); (try clear hx246_1); (try clear p2); (try clear p246); (try clear q246); obtain ⟨x28_2, rfl, HA, HK2, HB⟩ := hrel; cases gk with
      | zero => exact absurd HA.out (by simp [spec_PolygonOk.l1])
      | succ k2 =>
       have H := HA.out; clear HA; simp only [spec_PolygonOk.l1] at H; by_cases c15 : x28_2 < (l0.length : Int)
       ·rw [if_pos c15] at H
        have c15b0 : decide (x28_2 < (l0.length : Int)) = true := decide_eq_true c15; clear c15; by_cases c16 : 0 ≤ x28_2
        ·rw [if_pos c16] at H
         have c16b0 : decide (0 ≤ x28_2) = true := decide_eq_true c16; clear c16; by_cases c17 : x28_2 < (l0.length : Int)
         ·rw [if_pos c17] at H
          have c17b0 : decide (x28_2 < (l0.length : Int)) = true := decide_eq_true c17; clear c17; by_cases c18 : (l0.length : Int) = 0
          ·rw [if_pos c18] at H
           exact absurd H (by simp)
          ·rw [if_neg c18] at H
           have c18b0 : ((l0.length : Int) == 0) = false := beq_eq_false_iff_ne.mpr c18; have c18b1 : ((l0.length : Int) != 0) = true := bne_iff_ne.mpr c18; have c18b2 : ¬ (l0 = []) := fun h_ => c18 (by rw [h_]; rfl)
           obtain ⟨ji19, hji19⟩ : ∃ j_ : Int, (Int.tmod (wrap64 (x28_2 + 1)) (l0.length : Int)) = j_ := ⟨_, rfl⟩; replace H : (if 0 ≤ (ji19) then (if (ji19) < (l0.length : Int) then (if (((rd_T25 l0 x28_2).f0) == ((rd_T25 l0 (ji19)).f0) && (((rd_T25 l0 x28_2).f1) == ((rd_T25 l0 (ji19)).f1))) = true then (some false) else (spec_PolygonOk.l1 k2 l0 (l0.length : Int) (l0.length : Int) (wrap64 (x28_2 + 1)))) else (none)) else (none)) = some r := by first | (rw [hji19] at H; exact H) | (simp only [hji19] at H ⊢; exact H)
           by_cases c20 : 0 ≤ (ji19)
           ·rw [if_pos c20] at H
            have c20b0 : decide (0 ≤ (ji19)) = true := decide_eq_true c20; clear c20; by_cases c21 : (ji19) < (l0.length : Int)
            ·rw [if_pos c21] at H
             have c21b0 : decide ((ji19) < (l0.length : Int)) = true := decide_eq_true c21; clear c21; by_cases c22 : (((rd_T25 l0 x28_2).f0) == ((rd_T25 l0 (ji19)).f0) && (((rd_T25 l0 x28_2).f1) == ((rd_T25 l0 (ji19)).f1))) = true
             ·rw [if_pos c22] at H
              have c22b0 : (((rd_T25 l0 x28_2).f0) == ((rd_T25 l0 (ji19)).f0) && (((rd_T25 l0 x28_2).f1) == ((rd_T25 l0 (ji19)).f1))) = true := c22; (try (have c22b1 : decide (((rd_T25 l0 x28_2).f0) = ((rd_T25 l0 (ji19)).f0) && (((rd_T25 l0 x28_2).f1) == ((rd_T25 l0 (ji19)).f1))) = true := by simpa using c22)); (try (have c22b2 : (((rd_T25 l0 x28_2).f0) == ((rd_T25 l0 (ji19)).f0) && (((rd_T25 l0 x28_2).f1) == ((rd_T25 l0 (ji19)).f1))) = true := by simpa using c22)); clear c22; obtain rfl := Option.some.inj H; try go_wp2
              have n0_ := Aside0.mk (below_drew1 HB.out); clear HB; have HB := n0_; clear n0_; have p249 : 0 ≤ (x28_2 : Int) := of_decide_eq_true (by assumption); have q249 : x28_2 < (l0.length : Int) := of_decide_eq_true (by assumption); obtain ⟨ad249, e249, hx249_0, hx249_1⟩ := at_T25 HR0.out x28_2 p249 q249; have hw249_1 := hx249_1; have hw249_0 := hx249_0; cases e249; (try replace hx249_0 := (HB.out.cell (World.block_lt_of_cell? w _ hx249_0)).trans hx249_0); (try replace hx249_1 := (HB.out.cell (World.block_lt_of_cell? w _ hx249_1)).trans hx249_1); replace p249 := eq_true p249; replace q249 := eq_true q249; have p250 : 0 ≤ ((ji19) : Int) := of_decide_eq_true (by assumption); have q250 : (ji19) < (l0.length : Int) := of_decide_eq_true (by assumption); obtain ⟨ad250, e250, hx250_0, hx250_1⟩ := at_T25 HR0.out (ji19) p250 q250; have hw250_1 := hx250_1; have hw250_0 := hx250_0; obtain rfl : ad249 = ad250 := (by injection e250); (try replace hx250_0 := (HB.out.cell (World.block_lt_of_cell? w _ hx250_0)).trans hx250_0); (try replace hx250_1 := (HB.out.cell (World.block_lt_of_cell? w _ hx250_1)).trans hx250_1); replace p250 := eq_true p250; replace q250 := eq_true q250; refine start_ (n := 12) (S := fun w' => w'.cell? (ad249.add ((x28_2).toNat * 2)) = some (.int .i64 ((rd_T25 l0 x28_2).f0)) ∧ w'.cell? ⟨(ad249.add ((x28_2).toNat * 2)).block, (ad249.add ((x28_2).toNat * 2)).off + 1, none⟩ = some (.int .i64 ((rd_T25 l0 x28_2).f1)) ∧ w'.cell? (ad249.add (((ji19)).toNat * 2)) = some (.int .i64 ((rd_T25 l0 (ji19)).f0)) ∧ w'.cell? ⟨(ad249.add (((ji19)).toNat * 2)).block, (ad249.add (((ji19)).toNat * 2)).off + 1, none⟩ = some (.int .i64 ((rd_T25 l0 (ji19)).f1))) (ds := []) (qE_ 12 spec_PolygonOk.od0 0) (by kernel_rfl) rfl rfl ⟨((HB.out.cell (World.block_lt_of_cell? w _ hw249_0)).trans hw249_0), ((HB.out.cell (World.block_lt_of_cell? w _ hw249_1)).trans hw249_1), ((HB.out.cell (World.block_lt_of_cell? w _ hw250_0)).trans hw250_0), ((HB.out.cell (World.block_lt_of_cell? w _ hw250_1)).trans hw250_1)⟩ (fun hHeld => ?_); refine with_tabW spec_PolygonOk.tab13 spec_PolygonOk.bits13 (fun HT_ HW_ => ?_); generalize wr.drew = w23 at HB hx249_0 hx249_1 hx250_0 hx250_1 hHeld ⊢
              iterate 12 (first | (refine gz_ HT_ ?zy ?zp ?_ (v := ?_) (a' := ?_); (case zy => intro w'; go_simp; with_reducible rfl); (case zp => simp only [Act.put, List.setIfInBounds_toArray, List.set_cons_zero, List.set_cons_succ, i64_w, i32_w]; rfl)) | (refine gt_ HT_ HW_ hHeld ?zy ?zp ?_ (v := ?_) (a' := ?_); (case zy => rintro w' ⟨s0, s1, s2, s3⟩; go_simp; with_reducible rfl); (case zp => simp only [Act.put, List.setIfInBounds_toArray, List.set_cons_zero, List.set_cons_succ, i64_w, i32_w]; rfl)))
              refine done_ (done_of HT_.out (by kernel_rfl)) ?_; try go_wp2
              go_ret
              exact ⟨by first | rfl | (simp [errW_none, errW_some] <;> rfl) | (simp only [← hji19]; first | rfl | (simp [errW_none, errW_some] <;> rfl)) | (simp [*, errW_none, errW_some] <;> rfl), by with_reducible repeat (first | exact HB.out | apply below_alloc | apply pw_below_drewN | apply below_drew1)⟩
             ·rw [if_neg c22] at H
              have c22b0 : (((rd_T25 l0 x28_2).f0) == ((rd_T25 l0 (ji19)).f0) && (((rd_T25 l0 x28_2).f1) == ((rd_T25 l0 (ji19)).f1))) = false := by simpa using c22
              (try (have c22b1 : decide (((rd_T25 l0 x28_2).f0) = ((rd_T25 l0 (ji19)).f0) && (((rd_T25 l0 x28_2).f1) == ((rd_T25 l0 (ji19)).f1))) = false := by simpa using c22)); (try (have c22b2 : (((rd_T25 l0 x28_2).f0) == ((rd_T25 l0 (ji19)).f0) && (((rd_T25 l0 x28_2).f1) == ((rd_T25 l0 (ji19)).f1))) = false := by simpa using c22)); (try (have c22b3 : ¬ (((rd_T25 l0 x28_2).f0) = ((rd_T25 l0 (ji19)).f0) && (((rd_T25 l0 x28_2).f1) == ((rd_T25 l0 (ji19)).f1))) := by simpa using c22)); clear c22; have H' := Aside0.mk H; clear H; try go_wp2
              have n0_ := Aside0.mk (below_drew1 HB.out); clear HB; have HB := n0_; clear n0_; have p249 : 0 ≤ (x28_2 : Int) := of_decide_eq_true (by assumption); have q249 : x28_2 < (l0.length : Int) := of_decide_eq_true (by assumption); obtain ⟨ad249, e249, hx249_0, hx249_1⟩ := at_T25 HR0.out x28_2 p249 q249; have hw249_1 := hx249_1; have hw249_0 := hx249_0; cases e249; (try replace hx249_0 := (HB.out.cell (World.block_lt_of_cell? w _ hx249_0)).trans hx249_0); (try replace hx249_1 := (HB.out.cell (World.block_lt_of_cell? w _ hx249_1)).trans hx249_1); replace p249 := eq_true p249; replace q249 := eq_true q249; have p250 : 0 ≤ ((ji19) : Int) := of_decide_eq_true (by assumption); have q250 : (ji19) < (l0.length : Int) := of_decide_eq_true (by assumption); obtain ⟨ad250, e250, hx250_0, hx250_1⟩ := at_T25 HR0.out (ji19) p250 q250; have hw250_1 := hx250_1; have hw250_0 := hx250_0; obtain rfl : ad249 = ad250 := (by injection e250); (try replace hx250_0 := (HB.out.cell (World.block_lt_of_cell? w _ hx250_0)).trans hx250_0); (try replace hx250_1 := (HB.out.cell (World.block_lt_of_cell? w _ hx250_1)).trans hx250_1); replace p250 := eq_true p250; replace q250 := eq_true q250; refine start_ (n := 12) (S := fun w' => w'.cell? (ad249.add ((x28_2).toNat * 2)) = some (.int .i64 ((rd_T25 l0 x28_2).f0)) ∧ w'.cell? ⟨(ad249.add ((x28_2).toNat * 2)).block, (ad249.add ((x28_2).toNat * 2)).off + 1, none⟩ = some (.int .i64 ((rd_T25 l0 x28_2).f1)) ∧ w'.cell? (ad249.add (((ji19)).toNat * 2)) = some (.int .i64 ((rd_T25 l0 (ji19)).f0)) ∧ w'.cell? ⟨(ad249.add (((ji19)).toNat * 2)).block, (ad249.add (((ji19)).toNat * 2)).off + 1, none⟩ = some (.int .i64 ((rd_T25 l0 (ji19)).f1))) (ds := []) (qE_ 12 spec_PolygonOk.od0 0) (by kernel_rfl) rfl rfl ⟨((HB.out.cell (World.block_lt_of_cell? w _ hw249_0)).trans hw249_0), ((HB.out.cell (World.block_lt_of_cell? w _ hw249_1)).trans hw249_1), ((HB.out.cell (World.block_lt_of_cell? w _ hw250_0)).trans hw250_0), ((HB.out.cell (World.block_lt_of_cell? w _ hw250_1)).trans hw250_1)⟩ (fun hHeld => ?_); refine with_tabW spec_PolygonOk.tab13 spec_PolygonOk.bits13 (fun HT_ HW_ => ?_); generalize wr.drew = w24 at HB hx249_0 hx249_1 hx250_0 hx250_1 hHeld ⊢
              iterate 12 (first | (refine gz_ HT_ ?zy ?zp ?_ (v := ?_) (a' := ?_); (case zy => intro w'; go_simp; with_reducible rfl); (case zp => simp only [Act.put, List.setIfInBounds_toArray, List.set_cons_zero, List.set_cons_succ, i64_w, i32_w]; rfl)) | (refine gt_ HT_ HW_ hHeld ?zy ?zp ?_ (v := ?_) (a' := ?_); (case zy => rintro w' ⟨s0, s1, s2, s3⟩; go_simp; with_reducible rfl); (case zp => simp only [Act.put, List.setIfInBounds_toArray, List.set_cons_zero, List.set_cons_succ, i64_w, i32_w]; rfl)))
              refine done_ (done_of HT_.out (by kernel_rfl)) ?_; try go_wp2
              go_roundg k2
              case measure => have := HK1.out; have := HK2.out; omega
              case rel => exact ⟨(wrap64 (x28_2 + 1)), rfl, H', ⟨by have := HK1.out; have := HK2.out; omega⟩, ⟨by with_reducible repeat (first | exact HB.out | apply below_alloc | apply pw_below_drewN | apply below_drew1)⟩⟩
            ·rw [if_neg c21] at H
             exact absurd H (by simp)
           ·rw [if_neg c20] at H
            exact absurd H (by simp)
         ·rw [if_neg c17] at H
          exact absurd H (by simp)
        ·rw [if_neg c16] at H
         exact absurd H (by simp)
       ·rw [if_neg c15] at H
        have c15b0 : decide (x28_2 < (l0.length : Int)) = false := decide_eq_false c15; clear c15; have H' := Aside0.mk H; clear H; go_wp2
        go_loopg [46] k2 (fun kq v46 w' => ∃ (x46_3 : Int), v46 = .int .i64 x46_3 ∧ Aside0 (spec_PolygonOk.l2 kq l0 (l0.length : Int) (l0.length : Int) x46_3 = some r) ∧ Aside0 (kq ≤ k2) ∧ Aside0 (Below w.heap.size w w'))
        case atStart => exact ⟨(0), rfl, H', ⟨Nat.le_refl _⟩, ⟨by with_reducible repeat (first | exact HB.out | apply below_alloc | apply pw_below_drewN | apply below_drew1)⟩⟩
        case round =>
         clear H'; (try clear c1); (try clear c2); (try clear p2); (try clear q2); (try clear hx2); (try clear c3); (try clear c4); (try clear c4b0); (try clear c5); (try clear c5b0); (try clear c6); (try clear c6b0); (try clear p6); (try clear c8); (try clear c15); (try clear c15b0); (try clear c16); (try clear c16b0); (try clear c17); (try clear c17b0); (try clear c18); (try clear c18b0); (try clear c18b1); (try clear c18b2); (try clear c20); (try clear c20b0); (try clear c21); (try clear c21b0); (try clear c22); (try clear c22b0); (try clear c22b1); (try clear c22b2); (try clear p24); (try clear q24); (try clear hx24); (try clear hcz10_0); (try clear hcz10_1); (try clear hcz13_0); (try clear hcz13_1); (try clear hfz10_0); (try clear hfz10_1); (try clear hfz13_0); (try clear hfz13_1); (try clear hx246_0); (try clear hx246_1); (try clear hx249_0); (try clear hx249_1); (try clear hx250_0); (try clear hx250_1); (try clear p2); (try clear p246); (try clear p249); (try clear p250); (try clear p6); (try clear q2); (try clear q246); (try clear q249); (try clear q250); obtain ⟨x46_3, rfl, HA, HK3, HB⟩ := hrel; cases gk with
         | zero => exact absurd HA.out (by simp [spec_PolygonOk.l2])
         | succ k3 =>
          have H := HA.out; clear HA; simp only [spec_PolygonOk.l2] at H; by_cases c25 : x46_3 < (l0.length : Int)
          ·rw [if_pos c25] at H
           have c25b0 : decide (x46_3 < (l0.length : Int)) = true := decide_eq_true c25; clear c25; have H' := Aside0.mk H; clear H; go_wp2
           go_loopg [8] k3 (fun kq v8 w' => ∃ (x8_4 : Int), v8 = .int .i64 x8_4 ∧ Aside0 (spec_PolygonOk.l3 kq l0 (l0.length : Int) x46_3 x8_4 (l0.length : Int) x46_3 = some r) ∧ Aside0 (kq ≤ k3) ∧ Aside0 (Below w.heap.size w w'))
           case atStart => exact ⟨(wrap64 (x46_3 + 1)), rfl, H', ⟨Nat.le_refl _⟩, ⟨by with_reducible repeat (first | exact HB.out | apply below_alloc | apply pw_below_drewN | apply below_drew1)⟩⟩
           case round =>
            clear H'; (try clear c1); (try clear c2); (try clear p2); (try clear q2); (try clear hx2); (try clear c3); (try clear c4); (try clear c4b0); (try clear c5); (try clear c5b0); (try clear c6); (try clear c6b0); (try clear p6); (try clear c8); (try clear c15); (try clear c15b0); (try clear c16); (try clear c16b0); (try clear c17); (try clear c17b0); (try clear c18); (try clear c18b0); (try clear c18b1); (try clear c18b2); (try clear c20); (try clear c20b0); (try clear c21); (try clear c21b0); (try clear c22); (try clear c22b0); (try clear c22b1); (try clear c22b2); (try clear p24); (try clear q24); (try clear hx24); (try clear c25); (try clear c25b0); (try clear p25); (try clear q25); (try clear hx25); (try clear hcz10_0); (try clear hcz10_1); (try clear hcz13_0); (try clear hcz13_1); (try clear hfz10_0); (try clear hfz10_1); (try clear hfz13_0); (try clear hfz13_1); (try clear hx246_0); (try clear hx246_1); (try clear hx249_0); (try clear hx249_1); (try clear hx250_0); (try clear hx250_1); (try clear p2); (try clear p24); (try clear p246); (try clear p249); (try clear p250); (try clear p6); (try clear q2); (try clear q24); (try clear q246); (try clear q249); (try clear q250); obtain ⟨x8_4, rfl, HA, HK4, HB⟩ := hrel; cases gk with
            | zero => exact absurd HA.out (by simp [spec_PolygonOk.l3])
            | succ k4 =>
             have H := HA.out; clear HA; simp only [spec_PolygonOk.l3] at H; by_cases c26 : x8_4 < (l0.length : Int)
             ·rw [if_pos c26] at H
              have c26b0 : decide (x8_4 < (l0.length : Int)) = true := decide_eq_true c26; clear c26; by_cases c27 : 0 ≤ x46_3
              ·rw [if_pos c27] at H
               have c27b0 : decide (0 ≤ x46_3) = true := decide_eq_true c27; clear c27; by_cases c28 : x46_3 < (l0.length : Int)
               ·rw [if_pos c28] at H
                have c28b0 : decide (x46_3 < (l0.length : Int)) = true := decide_eq_true c28; clear c28; by_cases c29 : (l0.length : Int) = 0
                ·rw [if_pos c29] at H
                 exact absurd H (by simp)
                ·rw [if_neg c29] at H
                 have c29b0 : ((l0.length : Int) == 0) = false := beq_eq_false_iff_ne.mpr c29; have c29b1 : ((l0.length : Int) != 0) = true := bne_iff_ne.mpr c29; have c29b2 : ¬ (l0 = []) := fun h_ => c29 (by rw [h_]; rfl)
                 obtain ⟨ji30, hji30⟩ : ∃ j_ : Int, (Int.tmod (wrap64 (x46_3 + 1)) (l0.length : Int)) = j_ := ⟨_, rfl⟩; replace H : (if 0 ≤ (ji30) then (if (ji30) < (l0.length : Int) then (if 0 ≤ x8_4 then (if x8_4 < (l0.length : Int) then (if 0 ≤ (Int.tmod (wrap64 (x8_4 + 1)) (l0.length : Int)) then (if (Int.tmod (wrap64 (x8_4 + 1)) (l0.length : Int)) < (l0.length : Int) then ((spec_l02Meet.f k4 ((rd_T25 l0 x46_3).f0) ((rd_T25 l0 x46_3).f1) ((rd_T25 l0 (ji30)).f0) ((rd_T25 l0 (ji30)).f1) ((rd_T25 l0 x8_4).f0) ((rd_T25 l0 x8_4).f1) ((rd_T25 l0 (Int.tmod (wrap64 (x8_4 + 1)) (l0.length : Int))).f0) ((rd_T25 l0 (Int.tmod (wrap64 (x8_4 + 1)) (l0.length : Int))).f1)).bind fun t255 => (if x8_4 = (wrap64 (x46_3 + 1)) then (spec_PolygonOk.j4 k4 l0 (l0.length : Int) x46_3 x8_4 t255 (l0.length : Int) x46_3 true) else (if x46_3 = 0 then (spec_PolygonOk.j4 k4 l0 (l0.length : Int) x46_3 x8_4 t255 (l0.length : Int) x46_3 (x8_4 == (wrap64 ((l0.length : Int) - 1)))) else (spec_PolygonOk.j4 k4 l0 (l0.length : Int) x46_3 x8_4 t255 (l0.length : Int) x46_3 false)))) else (none)) else (none)) else (none)) else (none)) else (none)) else (none)) = some r := by first | (rw [hji30] at H; exact H) | (simp only [hji30] at H ⊢; exact H)
                 by_cases c31 : 0 ≤ (ji30)
                 ·rw [if_pos c31] at H
                  have c31b0 : decide (0 ≤ (ji30)) = true := decide_eq_true c31; clear c31; by_cases c32 : (ji30) < (l0.length : Int)
                  ·rw [if_pos c32] at H
                   have c32b0 : decide ((ji30) < (l0.length : Int)) = true := decide_eq_true c32; clear c32; by_cases c33 : 0 ≤ x8_4
                   ·rw [if_pos c33] at H
                    have c33b0 : decide (0 ≤ x8_4) = true := decide_eq_true c33; clear c33; by_cases c34 : x8_4 < (l0.length : Int)
                    ·rw [if_pos c34] at H
                     have c34b0 : decide (x8_4 < (l0.length : Int)) = true := decide_eq_true c34; clear c34; obtain ⟨ji35, hji35⟩ : ∃ j_ : Int, (Int.tmod (wrap64 (x8_4 + 1)) (l0.length : Int)) = j_ := ⟨_, rfl⟩; replace H : (if 0 ≤ (ji35) then (if (ji35) < (l0.length : Int) then ((spec_l02Meet.f k4 ((rd_T25 l0 x46_3).f0) ((rd_T25 l0 x46_3).f1) ((rd_T25 l0 (ji30)).f0) ((rd_T25 l0 (ji30)).f1) ((rd_T25 l0 x8_4).f0) ((rd_T25 l0 x8_4).f1) ((rd_T25 l0 (ji35)).f0) ((rd_T25 l0 (ji35)).f1)).bind fun t255 => (if x8_4 = (wrap64 (x46_3 + 1)) then (spec_PolygonOk.j4 k4 l0 (l0.length : Int) x46_3 x8_4 t255 (l0.length : Int) x46_3 true) else (if x46_3 = 0 then (spec_PolygonOk.j4 k4 l0 (l0.length : Int) x46_3 x8_4 t255 (l0.length : Int) x46_3 (x8_4 == (wrap64 ((l0.length : Int) - 1)))) else (spec_PolygonOk.j4 k4 l0 (l0.length : Int) x46_3 x8_4 t255 (l0.length : Int) x46_3 false)))) else (none)) else (none)) = some r := by first | (rw [hji35] at H; exact H) | (simp only [hji35] at H ⊢; exact H)
                     by_cases c36 : 0 ≤ (ji35)
                     ·rw [if_pos c36] at H
                      have c36b0 : decide (0 ≤ (ji35)) = true := decide_eq_true c36; clear c36; by_cases c37 : (ji35) < (l0.length : Int)
                      ·rw [if_pos c37] at H
                       have c37b0 : decide ((ji35) < (l0.length : Int)) = true := decide_eq_true c37; clear c37; replace H := Option.bind_eq_some_iff.mp H; obtain ⟨t255, A380, H⟩ := H; replace H : (if x8_4 = (wrap64 (x46_3 + 1)) then (spec_PolygonOk.j4 k4 l0 (l0.length : Int) x46_3 x8_4 t255 (l0.length : Int) x46_3 true) else (if x46_3 = 0 then (spec_PolygonOk.j4 k4 l0 (l0.length : Int) x46_3 x8_4 t255 (l0.length : Int) x46_3 (x8_4 == (wrap64 ((l0.length : Int) - 1)))) else (spec_PolygonOk.j4 k4 l0 (l0.length : Int) x46_3 x8_4 t255 (l0.length : Int) x46_3 false))) = some r := H; have A38 := Aside0.mk A380; clear A380; have HC39 := Aside0.mk H; clear H; try go_wp2
                       have n0_ := Aside0.mk (below_drew1 HB.out); clear HB; have HB := n0_; clear n0_; have p251 : 0 ≤ (x46_3 : Int) := of_decide_eq_true (by assumption); have q251 : x46_3 < (l0.length : Int) := of_decide_eq_true (by assumption); obtain ⟨ad251, e251, hx251_0, hx251_1⟩ := at_T25 HR0.out x46_3 p251 q251; have hw251_1 := hx251_1; have hw251_0 := hx251_0; cases e251; (try replace hx251_0 := (HB.out.cell (World.block_lt_of_cell? w _ hx251_0)).trans hx251_0); (try replace hx251_1 := (HB.out.cell (World.block_lt_of_cell? w _ hx251_1)).trans hx251_1); replace p251 := eq_true p251; replace q251 := eq_true q251; have p252 : 0 ≤ ((ji30) : Int) := of_decide_eq_true (by assumption); have q252 : (ji30) < (l0.length : Int) := of_decide_eq_true (by assumption); obtain ⟨ad252, e252, hx252_0, hx252_1⟩ := at_T25 HR0.out (ji30) p252 q252; have hw252_1 := hx252_1; have hw252_0 := hx252_0; obtain rfl : ad251 = ad252 := (by injection e252); (try replace hx252_0 := (HB.out.cell (World.block_lt_of_cell? w _ hx252_0)).trans hx252_0); (try replace hx252_1 := (HB.out.cell (World.block_lt_of_cell? w _ hx252_1)).trans hx252_1); replace p252 := eq_true p252; replace q252 := eq_true q252; have p253 : 0 ≤ (x8_4 : Int) := of_decide_eq_true (by assumption); have q253 : x8_4 < (l0.length : Int) := of_decide_eq_true (by assumption); obtain ⟨ad253, e253, hx253_0, hx253_1⟩ := at_T25 HR0.out x8_4 p253 q253; have hw253_1 := hx253_1; have hw253_0 := hx253_0; obtain rfl : ad251 = ad253 := (by injection e253); (try replace hx253_0 := (HB.out.cell (World.block_lt_of_cell? w _ hx253_0)).trans hx253_0); (try replace hx253_1 := (HB.out.cell (World.block_lt_of_cell? w _ hx253_1)).trans hx253_1); replace p253 := eq_true p253; replace q253 := eq_true q253; have p254 : 0 ≤ ((ji35) : Int) := of_decide_eq_true (by assumption); have q254 : (ji35) < (l0.length : Int) := of_decide_eq_true (by assumption); obtain ⟨ad254, e254, hx254_0, hx254_1⟩ := at_T25 HR0.out (ji35) p254 q254; have hw254_1 := hx254_1; have hw254_0 := hx254_0; obtain rfl : ad251 = ad254 := (by injection e254); (try replace hx254_0 := (HB.out.cell (World.block_lt_of_cell? w _ hx254_0)).trans hx254_0); (try replace hx254_1 := (HB.out.cell (World.block_lt_of_cell? w _ hx254_1)).trans hx254_1); replace p254 := eq_true p254; replace q254 := eq_true q254; refine start_ (n := 24) (S := fun w' => w'.cell? (ad251.add ((x46_3).toNat * 2)) = some (.int .i64 ((rd_T25 l0 x46_3).f0)) ∧ w'.cell? ⟨(ad251.add ((x46_3).toNat * 2)).block, (ad251.add ((x46_3).toNat * 2)).off + 1, none⟩ = some (.int .i64 ((rd_T25 l0 x46_3).f1)) ∧ w'.cell? (ad251.add (((ji30)).toNat * 2)) = some (.int .i64 ((rd_T25 l0 (ji30)).f0)) ∧ w'.cell? ⟨(ad251.add (((ji30)).toNat * 2)).block, (ad251.add (((ji30)).toNat * 2)).off + 1, none⟩ = some (.int .i64 ((rd_T25 l0 (ji30)).f1)) ∧ w'.cell? (ad251.add ((x8_4).toNat * 2)) = some (.int .i64 ((rd_T25 l0 x8_4).f0)) ∧ w'.cell? ⟨(ad251.add ((x8_4).toNat * 2)).block, (ad251.add ((x8_4).toNat * 2)).off + 1, none⟩ = some (.int .i64 ((rd_T25 l0 x8_4).f1)) ∧ w'.cell? (ad251.add (((ji35)).toNat * 2)) = some (.int .i64 ((rd_T25 l0 (ji35)).f0)) ∧ w'.cell? ⟨(ad251.add (((ji35)).toNat * 2)).block, (ad251.add (((ji35)).toNat * 2)).off + 1, none⟩ = some (.int .i64 ((rd_T25 l0 (ji35)).f1))) (ds := []) (qE_ 24 spec_PolygonOk.od1 0) (by kernel_rfl) rfl rfl ⟨((HB.out.cell (World.block_lt_of_cell? w _ hw251_0)).trans hw251_0), ((HB.out.cell (World.block_lt_of_cell? w _ hw251_1)).trans hw251_1), ((HB.out.cell (World.block_lt_of_cell? w _ hw252_0)).trans hw252_0), ((HB.out.cell (World.block_lt_of_cell? w _ hw252_1)).trans hw252_1), ((HB.out.cell (World.block_lt_of_cell? w _ hw253_0)).trans hw253_0), ((HB.out.cell (World.block_lt_of_cell? w _ hw253_1)).trans hw253_1), ((HB.out.cell (World.block_lt_of_cell? w _ hw254_0)).trans hw254_0), ((HB.out.cell (World.block_lt_of_cell? w _ hw254_1)).trans hw254_1)⟩ (fun hHeld => ?_); refine with_tabW spec_PolygonOk.tab22 spec_PolygonOk.bits22 (fun HT_ HW_ => ?_); generalize wr.drew = w40 at HB hx251_0 hx251_1 hx252_0 hx252_1 hx253_0 hx253_1 hx254_0 hx254_1 hHeld ⊢
                       iterate 22 (first | (refine gz_ HT_ ?zy ?zp ?_ (v := ?_) (a' := ?_); (case zy => intro w'; go_simp; with_reducible rfl); (case zp => simp only [Act.put, List.setIfInBounds_toArray, List.set_cons_zero, List.set_cons_succ, i64_w, i32_w]; rfl)) | (refine gt_ HT_ HW_ hHeld ?zy ?zp ?_ (v := ?_) (a' := ?_); (case zy => rintro w' ⟨s0, s1, s2, s3, s4, s5, s6, s7⟩; go_simp; with_reducible rfl); (case zp => simp only [Act.put, List.setIfInBounds_toArray, List.set_cons_zero, List.set_cons_succ, i64_w, i32_w]; rfl)))
                       refine one_ (i := 22) (N := some 78) (qE_ 24 spec_PolygonOk.od1 23) rfl rfl (one_of HT_.out (by kernel_rfl)) (by decide) (fun K hK => ?_); refine goes_ Try.func82 (by kernel_rfl) rfl #[.agg #[.int .i64 ((rd_T25 l0 x46_3).f0), .int .i64 ((rd_T25 l0 x46_3).f1)], .agg #[.int .i64 ((rd_T25 l0 (ji30)).f0), .int .i64 ((rd_T25 l0 (ji30)).f1)], .agg #[.int .i64 ((rd_T25 l0 x8_4).f0), .int .i64 ((rd_T25 l0 x8_4).f1)], .agg #[.int .i64 ((rd_T25 l0 (ji35)).f0), .int .i64 ((rd_T25 l0 (ji35)).f1)]] (by rfl) rfl rfl (by (try simp only [List.map_toArray, List.map_cons, List.map_nil]); first | done | (simp only [hji30, hji35]; rfl) | rfl | (simp only [List.length_drop, List.length_take]; rfl)) ?_; with_reducible refine (spec_l02Meet.calls k4 ((rd_T25 l0 x46_3).f0) ((rd_T25 l0 x46_3).f1) ((rd_T25 l0 (ji30)).f0) ((rd_T25 l0 (ji30)).f1) ((rd_T25 l0 x8_4).f0) ((rd_T25 l0 x8_4).f1) ((rd_T25 l0 (ji35)).f0) ((rd_T25 l0 (ji35)).f1) t255 _ A38.out).mono ?_
                       rintro e w41 ⟨rfl, hb⟩
                       refine ⟨_, rfl, ?_⟩; have n0_ := Aside0.mk (below_step HB.out hb); clear HB; have HB := n0_; clear n0_; (try clear hb); refine hK.out _ _ ⟨((HB.out.cell (World.block_lt_of_cell? w _ hw251_0)).trans hw251_0), ((HB.out.cell (World.block_lt_of_cell? w _ hw251_1)).trans hw251_1), ((HB.out.cell (World.block_lt_of_cell? w _ hw252_0)).trans hw252_0), ((HB.out.cell (World.block_lt_of_cell? w _ hw252_1)).trans hw252_1), ((HB.out.cell (World.block_lt_of_cell? w _ hw253_0)).trans hw253_0), ((HB.out.cell (World.block_lt_of_cell? w _ hw253_1)).trans hw253_1), ((HB.out.cell (World.block_lt_of_cell? w _ hw254_0)).trans hw254_0), ((HB.out.cell (World.block_lt_of_cell? w _ hw254_1)).trans hw254_1)⟩ (fun hHeld => ?_); clear hK K; refine norm_ (a' := ?_) ?_ ?_; rotate_left
                       ·show Act.put _ (some 78) _ = _
                        simp only [Act.put, List.setIfInBounds_toArray, List.set_cons_zero, List.set_cons_succ, i64_w, i32_w]; rfl
                       iterate 1 (refine gz_ HT_ ?zy ?zp ?_ (v := ?_) (a' := ?_); (case zy => intro w'; go_simp; with_reducible rfl); (case zp => simp only [Act.put, List.setIfInBounds_toArray, List.set_cons_zero, List.set_cons_succ, i64_w, i32_w]; rfl))
                       refine done_ (done_of HT_.out (by kernel_rfl)) ?_; go_upto_region 23 with (fail)
                       go_cut [92] (fun v92 wc => ∃ (kq : Nat) (x92_38 : Bool), v92 = .bool x92_38 ∧ Aside0 (spec_PolygonOk.j4 kq l0 (l0.length : Int) x46_3 x8_4 t255 (l0.length : Int) x46_3 x92_38 = some r) ∧ Aside0 (kq ≤ k4) ∧ Aside0 (Below w.heap.size w wc))
                       case first =>
                        have H := HC39.out; clear HC39; by_cases c42 : x8_4 = (wrap64 (x46_3 + 1))
                        ·rw [if_pos c42] at H
                         have c42b0 : (x8_4 == (wrap64 (x46_3 + 1))) = true := beq_iff_eq.mpr c42; have c42b1 : (x8_4 != (wrap64 (x46_3 + 1))) = false := bne_eq_false_iff_eq.mpr c42; clear c42; (first | rw [c42b0] | (simp only [i64_w, i32_w]; rw [c42b0]) | skip)
                         have H' := Aside0.mk H; clear H; go_wp2
                         go_meet
                         case rel => exact ⟨_, (true), rfl, H', ⟨by have := HK1.out; have := HK2.out; have := HK3.out; have := HK4.out; first | omega | exact Nat.le_refl _⟩, ⟨by with_reducible repeat (first | exact HB.out | apply below_alloc | apply pw_below_drewN | apply below_drew1)⟩⟩
                        ·rw [if_neg c42] at H
                         have c42b0 : (x8_4 == (wrap64 (x46_3 + 1))) = false := beq_eq_false_iff_ne.mpr c42; have c42b1 : (x8_4 != (wrap64 (x46_3 + 1))) = true := bne_iff_ne.mpr c42; (first | rw [c42b0] | (simp only [i64_w, i32_w]; rw [c42b0]) | skip)
                         by_cases c43 : x46_3 = 0
                         ·rw [if_pos c43] at H
                          have c43b0 : (x46_3 == 0) = true := beq_iff_eq.mpr c43; have c43b1 : (x46_3 != 0) = false := bne_eq_false_iff_eq.mpr c43; clear c43; have H' := Aside0.mk H; clear H; go_wp2
                          go_meet
                          case rel => exact ⟨_, ((x8_4 == (wrap64 ((l0.length : Int) - 1)))), rfl, H', ⟨by have := HK1.out; have := HK2.out; have := HK3.out; have := HK4.out; first | omega | exact Nat.le_refl _⟩, ⟨by with_reducible repeat (first | exact HB.out | apply below_alloc | apply pw_below_drewN | apply below_drew1)⟩⟩
                         ·rw [if_neg c43] at H
                          have c43b0 : (x46_3 == 0) = false := beq_eq_false_iff_ne.mpr c43; have c43b1 : (x46_3 != 0) = true := bne_iff_ne.mpr c43; have H' := Aside0.mk H; clear H; go_wp2
                          go_meet
                          case rel => exact ⟨_, (false), rfl, H', ⟨by have := HK1.out; have := HK2.out; have := HK3.out; have := HK4.out; first | omega | exact Nat.le_refl _⟩, ⟨by with_reducible repeat (first | exact HB.out | apply below_alloc | apply pw_below_drewN | apply below_drew1)⟩⟩
                       case rest =>
                        clear HC39; (try clear c1); (try clear c2); (try clear p2); (try clear q2); (try clear hx2); (try clear c3); (try clear c4); (try clear c4b0); (try clear c5); (try clear c5b0); (try clear c6); (try clear c6b0); (try clear p6); (try clear c8); (try clear c15); (try clear c15b0); (try clear c16); (try clear c16b0); (try clear c17); (try clear c17b0); (try clear c18); (try clear c18b0); (try clear c18b1); (try clear c18b2); (try clear c20); (try clear c20b0); (try clear c21); (try clear c21b0); (try clear c22); (try clear c22b0); (try clear c22b1); (try clear c22b2); (try clear p24); (try clear q24); (try clear hx24); (try clear c25); (try clear c25b0); (try clear p25); (try clear q25); (try clear hx25); (try clear c26); (try clear c26b0); (try clear c27); (try clear c27b0); (try clear c28); (try clear c28b0); (try clear c29); (try clear c29b0); (try clear c29b1); (try clear c29b2); (try clear c31); (try clear c31b0); (try clear c32); (try clear c32b0); (try clear c33); (try clear c33b0); (try clear c34); (try clear c34b0); (try clear c36); (try clear c36b0); (try clear c37); (try clear c37b0); (try clear c42); (try clear c42b0); (try clear c42b1); (try clear c43); (try clear c43b0); (try clear c43b1); (try clear hcz10_0); (try clear hcz10_1); (try clear hcz13_0); (try clear hcz13_1); (try clear hfz10_0); (try clear hfz10_1); (try clear hfz13_0); (try clear hfz13_1); (try clear hx246_0); (try clear hx246_1); (try clear hx249_0); (try clear hx249_1); (try clear hx250_0); (try clear hx250_1); (try clear hx251_0); (try clear hx251_1); (try clear hx252_0); (try clear hx252_1); (try clear hx253_0); (try clear hx253_1); (try clear hx254_0); (try clear hx254_1); (try clear p2); (try clear p24); (try clear p246); (try clear p249); (try clear p25); (try clear p250); (try clear p251); (try clear p252); (try clear p253); (try clear p254); (try clear p6); (try clear q2); (try clear q24); (try clear q246); (try clear q249); (try clear q25); (try clear q250); (try clear q251); (try clear q252); (try clear q253); (try clear q254); obtain ⟨kq, x92_38, rfl, HA, HJ38, HB⟩ := hcut; cases kq with
                        | zero => exact absurd HA.out (by simp [spec_PolygonOk.j4])
                        | succ kj38 =>
                         have H := HA.out; clear HA; simp only [spec_PolygonOk.j4] at H; by_cases c44 : x92_38 = true
                         ·subst c44
                          have H1 : (if t255 = 1 then (spec_PolygonOk.l3 kj38 l0 (l0.length : Int) x46_3 (wrap64 (x8_4 + 1)) (l0.length : Int) x46_3) else (some false)) = some r := by rw [if_pos rfl] at H; exact H
                          clear H; have H := H1; clear H1; by_cases c45 : t255 = 1
                          ·rw [if_pos c45] at H
                           have c45b0 : (t255 == 1) = true := beq_iff_eq.mpr c45; have c45b1 : (t255 != 1) = false := bne_eq_false_iff_eq.mpr c45; clear c45; have H' := Aside0.mk H; clear H; go_wp2
                           go_roundg kj38
                           case measure => have := HK1.out; have := HK2.out; have := HK3.out; have := HK4.out; have := HJ38.out; omega
                           case rel => exact ⟨(wrap64 (x8_4 + 1)), rfl, H', ⟨by have := HK1.out; have := HK2.out; have := HK3.out; have := HK4.out; have := HJ38.out; omega⟩, ⟨by with_reducible repeat (first | exact HB.out | apply below_alloc | apply pw_below_drewN | apply below_drew1)⟩⟩
                          ·rw [if_neg c45] at H
                           have c45b0 : (t255 == 1) = false := beq_eq_false_iff_ne.mpr c45; have c45b1 : (t255 != 1) = true := bne_iff_ne.mpr c45; obtain rfl := Option.some.inj H; go_wp2
                           go_ret
                           exact ⟨by first | rfl | (simp [errW_none, errW_some] <;> rfl) | (simp only [← hji30, ← hji35]; first | rfl | (simp [errW_none, errW_some] <;> rfl)) | (simp [*, errW_none, errW_some] <;> rfl), by with_reducible repeat (first | exact HB.out | apply below_alloc | apply pw_below_drewN | apply below_drew1)⟩
                         ·replace c44 := Bool.eq_false_iff.mpr c44
                          subst c44
                          have H1 : (if t255 = 0 then (spec_PolygonOk.l3 kj38 l0 (l0.length : Int) x46_3 (wrap64 (x8_4 + 1)) (l0.length : Int) x46_3) else (some false)) = some r := by rw [if_neg (show ¬ (false = true) by decide)] at H; exact H
                          clear H; have H := H1; clear H1; by_cases c46 : t255 = 0
                          ·rw [if_pos c46] at H
                           have c46b0 : (t255 == 0) = true := beq_iff_eq.mpr c46; have c46b1 : (t255 != 0) = false := bne_eq_false_iff_eq.mpr c46; clear c46; have H' := Aside0.mk H; clear H; go_wp2
                           go_roundg kj38
                           case measure => have := HK1.out; have := HK2.out; have := HK3.out; have := HK4.out; have := HJ38.out; omega
                           case rel => exact ⟨(wrap64 (x8_4 + 1)), rfl, H', ⟨by have := HK1.out; have := HK2.out; have := HK3.out; have := HK4.out; have := HJ38.out; omega⟩, ⟨by with_reducible repeat (first | exact HB.out | apply below_alloc | apply pw_below_drewN | apply below_drew1)⟩⟩
                          ·rw [if_neg c46] at H
                           have c46b0 : (t255 == 0) = false := beq_eq_false_iff_ne.mpr c46; have c46b1 : (t255 != 0) = true := bne_iff_ne.mpr c46; obtain rfl := Option.some.inj H; go_wp2
                           go_ret
                           exact ⟨by first | rfl | (simp [errW_none, errW_some] <;> rfl) | (simp only [← hji30, ← hji35]; first | rfl | (simp [errW_none, errW_some] <;> rfl)) | (simp [*, errW_none, errW_some] <;> rfl), by with_reducible repeat (first | exact HB.out | apply below_alloc | apply pw_below_drewN | apply below_drew1)⟩
                      ·rw [if_neg c37] at H
                       exact absurd H (by simp)
                     ·rw [if_neg c36] at H
                      exact absurd H (by simp)
                    ·rw [if_neg c34] at H
                     exact absurd H (by simp)
                   ·rw [if_neg c33] at H
                    exact absurd H (by simp)
                  ·rw [if_neg c32] at H
                   exact absurd H (by simp)
                 ·rw [if_neg c31] at H
                  exact absurd H (by simp)
               ·rw [if_neg c28] at H
                exact absurd H (by simp)
              ·rw [if_neg c27] at H
               exact absurd H (by simp)
             ·rw [if_neg c26] at H
              have c26b0 : decide (x8_4 < (l0.length : Int)) = false := decide_eq_false c26; clear c26; have H' := Aside0.mk H; clear H; go_wp2
              go_roundg k4
              case measure => have := HK1.out; have := HK2.out; have := HK3.out; have := HK4.out; omega
              case rel => exact ⟨(wrap64 (x46_3 + 1)), rfl, H', ⟨by have := HK1.out; have := HK2.out; have := HK3.out; have := HK4.out; omega⟩, ⟨by with_reducible repeat (first | exact HB.out | apply below_alloc | apply pw_below_drewN | apply below_drew1)⟩⟩
          ·rw [if_neg c25] at H
           have c25b0 : decide (x46_3 < (l0.length : Int)) = false := decide_eq_false c25; clear c25; obtain rfl := Option.some.inj H; go_wp2
           go_ret
           exact ⟨by first | rfl | (simp <;> rfl), by with_reducible repeat (first | exact HB.out | apply below_alloc | apply pw_below_drewN | apply below_drew1)⟩
 ·replace c3 := Bool.eq_false_iff.mpr c3
  subst c3
  have H1 : (some false) = some r := by rw [if_neg (show ¬ (false = true) by decide)] at H; exact H
  clear H; have H := H1; clear H1; obtain rfl := Option.some.inj H; go_enter Try.func51, Try.ntmps51
  go_wp2_with (first | ((with_reducible refine gate_callee (f := 80) rfl ?_); refine goesL_ (some 12) rfl rfl Try.func80 (by kernel_rfl) rfl #[.int .i64 (l0.length : Int), .int .i64 3, .int .i64 10] rfl (by (try simp only [List.map_toArray, List.map_cons, List.map_nil]); first | done | rfl | (simp only [List.length_drop, List.length_take]; rfl)) ?_; (with_reducible refine (spec_l01In.calls (l0.length : Int) 3 10 false _ A2.out).mono ?_); rintro e w' ⟨rfl, ⟨nd, rfl⟩⟩; refine ⟨_, rfl, ?_⟩))
  go_ret
  exact ⟨by first | rfl | (simp <;> rfl), by with_reducible repeat (first | exact HB.out | apply below_alloc | apply pw_below_drewN | apply below_drew1)⟩

/-! ### spec_l04Mag: function 85 -/
def spec_l04Mag.f (a0 : Int) : Option (Int) := some (mx a0 (wrap64 (-a0)))
set_option maxHeartbeats 8000000 in
set_option maxRecDepth 100000 in
theorem spec_l04Mag.calls (a0 : Int) (r : Int) (w : World) (h : spec_l04Mag.f a0 = some r) :
  Calls Try.prog 85 #[.int .i64 a0] w fun e w' => e = .returned (.int .i64 r) ∧ Below w.heap.size w w' := by
 have HB := Aside0.mk (Below.refl w.heap.size w)
 have H : (some (mx a0 (wrap64 (-a0)))) = some r := h
 clear h
 obtain ⟨ji2, hji2⟩ : ∃ j_ : Int, (mx a0 (wrap64 (-a0))) = j_ := ⟨_, rfl⟩
 replace H : (some ji2) = some r := by first | (rw [hji2] at H; exact H) | (simp only [hji2] at H ⊢; exact H)
 have hji2_ : (if a0 < (wrap64 (-a0)) then (wrap64 (-a0)) else a0) = ji2 := hji2
 obtain rfl := Option.some.inj H
 go_enter Try.func85, Try.ntmps85
 go_wp2
 go_ret
 exact ⟨by first | rfl | (simp [errW_none, errW_some] <;> rfl) | (simp only [← hji2]; first | rfl | (simp [errW_none, errW_some] <;> rfl)) | (simp [*, errW_none, errW_some] <;> rfl), by with_reducible repeat (first | exact HB.out | apply below_alloc | apply pw_below_drewN | apply below_drew1)⟩

end Go.Proofs.Ytihnhpohbpfkmaa.XFnExactEqualCut
