/- What functions of the program compute, as plain Lean functions, and that Go's calls come to just that: written by wip/tools/xprint.py for the law FnShelves. -/
import Derived.Test.YtadloeklhjoohaaXFnShelvesx4
import Derived.Test.YtadloeklhjoohaaXFnShelvesx5
import Derived.Test.YtadloeklhjoohaaXFnShelvesx0
import Derived.Test.YtadloeklhjoohaaXFnShelvesx1
import Derived.Test.YtadloeklhjoohaaXFnShelvesx3
namespace Go.Proofs.Ytadloeklhjoohaa.XFnShelves
open Go.RowKit Go.Proofs.YtadloeklhjoohaaW.PrintWords Go.Proofs.YtadloeklhjoohaaW.PrintLast Go.Proofs.YtadloeklhjoohaaW.PrintMore
attribute [local go_sem] max2_int min2_int max_two min_two max_three min_three max_four min_four   -- for this text's walks alone
set_option linter.unusedVariables false
set_option linter.unusedSimpArgs false

/-! ### laws_has: function 24 -/
def laws_has.l0 : Nat → Int → List Int → Int → Int → Option (Bool)
  | 0, _, _, _, _ => none
  | k + 1, x1, x7, x8, x9 => if x9 < x8 then (if 0 ≤ x9 then (if x9 < (x7.length : Int) then (if (rd x7 x9) = x1 then (some true) else (laws_has.l0 k x1 x7 x8 (wrap64 (x9 + 1)))) else (none)) else (none)) else (some false)
def laws_has.f (k : Nat) (l0 : List Int) (a1 : Int) : Option (Bool) := laws_has.l0 k a1 l0 (l0.length : Int) 0
theorem laws_has.mono_l : ∀ k, (∀ y0 y1 y2 y3, LeO (laws_has.l0 k y0 y1 y2 y3) (laws_has.l0 (k + 1) y0 y1 y2 y3))
  | 0 => fun _ _ _ _ r h => by simp [laws_has.l0] at h
  | k + 1 => by
    have ih0 := laws_has.mono_l k
    · intro y0 y1 y2 y3
      unfold laws_has.l0
      repeat' first
      | (with_reducible exact ih0 _ _ _ _)
      | (with_reducible exact LeO.refl _)
      | (with_reducible exact LeO.none _)
      | (with_reducible refine LeO.ite ?_ ?_)
      | (with_reducible refine LeO.bind ?_ (fun _ => ?_))
      | exact ih0 _ _ _ _
      | exact LeO.none _
      | refine LeO.ite ?_ ?_
      | refine LeO.bind ?_ (fun _ => ?_)
theorem laws_has.mono : ∀ a0 a1 k, LeO (laws_has.f k a0 a1) (laws_has.f (k + 1) a0 a1) := by
  intro a0 a1 k
  have ih0 := laws_has.mono_l k
  unfold laws_has.f
  repeat' first
      | (with_reducible exact ih0 _ _ _ _)
      | (with_reducible exact LeO.refl _)
      | (with_reducible exact LeO.none _)
      | (with_reducible refine LeO.ite ?_ ?_)
      | (with_reducible refine LeO.bind ?_ (fun _ => ?_))
      | exact ih0 _ _ _ _
      | exact LeO.none _
      | refine LeO.ite ?_ ?_
      | refine LeO.bind ?_ (fun _ => ?_)
set_option maxHeartbeats 8000000 in
set_option maxRecDepth 100000 in
theorem laws_has.calls (k : Nat) (A0 : Option Addr) (c0 : Nat) (l0 : List Int) (a1 : Int) (r : Bool) (w : World) (hr0 : Kd.C (Kd.int .i64) w A0 l0.length l0) (hc0 : l0.length ≤ c0) (h : laws_has.f k l0 a1 = some r) :
    Calls Try.prog 24 #[.slice A0 l0.length c0, .int .i64 a1] w fun e w' => e = .returned (.bool r) ∧ Drawn0 w w' := by
  have HR0 := Aside0.mk hr0
  have HC0 := Aside0.mk hc0
  clear hr0 hc0
  have H : (laws_has.l0 k a1 l0 (l0.length : Int) 0) = some r := h
  clear h
  have H' := Aside0.mk H
  clear H
  go_enter Try.func24, Try.ntmps24
  go_wp2
  go_loopg [9] k (fun kq v9 w' => ∃ (x9_1 : Int), v9 = .int .i64 x9_1 ∧ Aside0 (laws_has.l0 kq a1 l0 (l0.length : Int) x9_1 = some r) ∧ Aside0 (kq ≤ k) ∧ Drawn0 w w')
  case atStart => exact ⟨(0), (by first | rfl | (simp; done) | (simp [*]; done)), H', ⟨Nat.le_refl _⟩, by repeat (first | exact Drawn0.refl _ | apply Drawn0.step)⟩
  case round =>
    clear H'
    try clear c2
    try clear p2
    obtain ⟨x9_1, rfl, HA, HK1, ⟨m1, rfl⟩⟩ := hrel
    cases gk with
    | zero => exact absurd HA.out (by simp [laws_has.l0])
    | succ k1 =>
      have H := HA.out
      clear HA
      simp only [laws_has.l0] at H
      by_cases c3 : x9_1 < (l0.length : Int)
      · rw [if_pos c3] at H
        have c3b0 : decide (x9_1 < (l0.length : Int)) = true := decide_eq_true c3
        clear c3
        by_cases c4 : 0 ≤ x9_1
        · rw [if_pos c4] at H
          have c4b0 : decide (0 ≤ x9_1) = true := decide_eq_true c4
          clear c4
          by_cases c5 : x9_1 < (l0.length : Int)
          · rw [if_pos c5] at H
            have c5b0 : decide (x9_1 < (l0.length : Int)) = true := decide_eq_true c5
            clear c5
            by_cases c6 : (rd l0 x9_1) = a1
            · rw [if_pos c6] at H
              have c6b0 : ((rd l0 x9_1) == a1) = true := beq_iff_eq.mpr c6
              have c6b1 : ((rd l0 x9_1) != a1) = false := bne_eq_false_iff_eq.mpr c6
              clear c6
              obtain rfl := Option.some.inj H
              have p194 : 0 ≤ (x9_1 : Int) := of_decide_eq_true (by first | (with_reducible assumption) | assumption)
              have q194 : x9_1 < (l0.length : Int) := of_decide_eq_true (by first | (with_reducible assumption) | assumption)
              obtain ⟨ad194, e194, hx194_0⟩ := Kd.at_int HR0.out x9_1 p194 q194
              cases e194
              replace p194 := eq_true p194
              replace q194 := eq_true q194
              go_wp2
              go_ret
              exact ⟨by first | rfl | (simp; done) | (simp [*]; done), by repeat (first | exact Drawn0.refl _ | apply Drawn0.step)⟩
            · rw [if_neg c6] at H
              have c6b0 : ((rd l0 x9_1) == a1) = false := beq_eq_false_iff_ne.mpr c6
              have c6b1 : ((rd l0 x9_1) != a1) = true := bne_iff_ne.mpr c6
              have H' := Aside0.mk H
              clear H
              have p194 : 0 ≤ (x9_1 : Int) := of_decide_eq_true (by first | (with_reducible assumption) | assumption)
              have q194 : x9_1 < (l0.length : Int) := of_decide_eq_true (by first | (with_reducible assumption) | assumption)
              obtain ⟨ad194, e194, hx194_0⟩ := Kd.at_int HR0.out x9_1 p194 q194
              cases e194
              replace p194 := eq_true p194
              replace q194 := eq_true q194
              go_wp2
              go_roundg k1
              case measure => have := HK1.out; omega
              case rel => exact ⟨(wrap64 (x9_1 + 1)), (by first | rfl | (simp; done) | (simp [*]; done)), H', ⟨by have := HK1.out; omega⟩, by repeat (first | exact Drawn0.refl _ | apply Drawn0.step)⟩
          · rw [if_neg c5] at H
            exact absurd H (by simp)
        · rw [if_neg c4] at H
          exact absurd H (by simp)
      · rw [if_neg c3] at H
        have c3b0 : decide (x9_1 < (l0.length : Int)) = false := decide_eq_false c3
        clear c3
        obtain rfl := Option.some.inj H
        go_wp2
        go_ret
        exact ⟨by first | rfl | (simp; done) | (simp [*]; done), by repeat (first | exact Drawn0.refl _ | apply Drawn0.step)⟩

/-! ### impl_copyLists: function 49 -/
def impl_copyLists.l0 : Nat → List (List Int) → List (List Int) → Int → Int → Option ((List (List Int)))
  | 0, _, _, _, _ => none
  | k + 1, x3, x7, x8, x9 => if x9 < x8 then (if 0 ≤ x9 then (if x9 < (x7.length : Int) then ((some (([] : List Int) : List Int)).bind fun y199 => (if y199.length + (rd_L3 x7 x9).length < 17592186044416 then (if x3.length < 5864062014805 then (impl_copyLists.l0 k (x3 ++ [(y199 ++ (rd_L3 x7 x9))]) x7 x8 (wrap64 (x9 + 1))) else (none)) else (none))) else (none)) else (none)) else (some x3)
def impl_copyLists.f (k : Nat) (l0 : List (List Int)) : Option ((List (List Int))) := impl_copyLists.l0 k (([] : List (List Int))) l0 (l0.length : Int) 0
theorem impl_copyLists.mono_l : ∀ k, (∀ y0 y1 y2 y3, LeO (impl_copyLists.l0 k y0 y1 y2 y3) (impl_copyLists.l0 (k + 1) y0 y1 y2 y3))
  | 0 => fun _ _ _ _ r h => by simp [impl_copyLists.l0] at h
  | k + 1 => by
    have ih0 := impl_copyLists.mono_l k
    · intro y0 y1 y2 y3
      unfold impl_copyLists.l0
      repeat' first
      | (with_reducible exact ih0 _ _ _ _)
      | (with_reducible exact LeO.refl _)
      | (with_reducible exact LeO.none _)
      | (with_reducible refine LeO.ite ?_ ?_)
      | (with_reducible refine LeO.bind ?_ (fun _ => ?_))
      | exact ih0 _ _ _ _
      | exact LeO.none _
      | refine LeO.ite ?_ ?_
      | refine LeO.bind ?_ (fun _ => ?_)
theorem impl_copyLists.mono : ∀ a0 k, LeO (impl_copyLists.f k a0) (impl_copyLists.f (k + 1) a0) := by
  intro a0 k
  have ih0 := impl_copyLists.mono_l k
  unfold impl_copyLists.f
  repeat' first
      | (with_reducible exact ih0 _ _ _ _)
      | (with_reducible exact LeO.refl _)
      | (with_reducible exact LeO.none _)
      | (with_reducible refine LeO.ite ?_ ?_)
      | (with_reducible refine LeO.bind ?_ (fun _ => ?_))
      | exact ih0 _ _ _ _
      | exact LeO.none _
      | refine LeO.ite ?_ ?_
      | refine LeO.bind ?_ (fun _ => ?_)
set_option maxHeartbeats 8000000 in
set_option maxRecDepth 100000 in
theorem impl_copyLists.calls (k : Nat) (A0 : Option Addr) (c0 : Nat) (l0 : List (List Int)) (r : List (List Int)) (w : World) (hr0 : Kd.C (Kd.slice 3 (Kd.int .i64)) w A0 l0.length l0) (hc0 : l0.length ≤ c0) (h : impl_copyLists.f k l0 = some r) :
    Calls Try.prog 49 #[.slice A0 l0.length c0] w fun e w' => ∃ v0_ : Value, e = .returned (v0_) ∧ Kd.S (Kd.slice 3 (Kd.int .i64)) 27 w' w.heap.size (fun _ => True) v0_ r ∧ Below w.heap.size w w' := by
  have HR0 := Aside0.mk hr0
  have HC0 := Aside0.mk hc0
  clear hr0 hc0
  have HB := Aside0.mk (Below.refl w.heap.size w)
  have H : (impl_copyLists.l0 k (([] : List (List Int))) l0 (l0.length : Int) 0) = some r := h
  clear h
  obtain ⟨y195, hy195⟩ : ∃ y_ : List (List Int), y_ = (([] : List (List Int))) := ⟨_, rfl⟩
  replace H : (impl_copyLists.l0 k y195 l0 (l0.length : Int) 0) = some r := by first | (rw [hy195]; with_reducible exact H) | (have H2_ := (Option.bind_some _ _).symm.trans H; rw [hy195]; with_reducible exact H2_) | (have H2_ := (Option.bind_some _ _).symm.trans H; with_reducible exact H2_) | with_reducible exact H | (rw [hy195]; exact H) | exact H
  have Ny195 := Aside0.mk hy195
  clear hy195
  have H' := Aside0.mk H
  clear H
  go_enter Try.func49, Try.ntmps49
  go_wp2_with (first | ((with_reducible refine gate_dst (N := 6) rfl ?_); refine Kd.S_lit (Kd.slice 3 (Kd.int .i64)) _ 27 ?hg (N := 6) ?hd (xs := ([] : List (List Int))) (inner := []) (ok := fun _ => True) (okp := fun _ => True) ?hr ?hp (fun _ hk => hk) trivial (Below.refl _ _) (Nat.le_refl _) (by simp) ?_; (case hd => rfl); (case hg => rfl); (case hr => first | (go_simp; done) | (go_simp; rfl)); (case hp => exact (Reps.none _ _)); intro v196 w2 ho3 hb hg_ hnew_; clear hg_ hnew_; (first | rw [← Ny195.out] at ho3 | (simp only [Int.reduceToNat] at ho3; rw [← Ny195.out] at ho3)); have n0_ := Aside0.mk (Kd.S_lower ho3 (below_size (by repeat (first | (with_reducible first | exact HB.out | apply below_alloc | apply pw_below_drewN | apply below_drew1) | exact HB.out)))); have n1_ := Aside0.mk (below_step (by repeat (first | (with_reducible first | exact HB.out | apply below_alloc | apply pw_below_drewN | apply below_drew1) | exact HB.out)) hb); clear HB; have HO197 := n0_; have HB := n1_; clear n0_ n1_; clear hb ho3))
  go_loopg [3, 9] k (fun kq v3 v9 w' => ∃ (x3_1 : List (List Int)) (x9_1 : Int), v9 = .int .i64 x9_1 ∧ Aside0 (impl_copyLists.l0 kq x3_1 l0 (l0.length : Int) x9_1 = some r) ∧ Aside0 (kq ≤ k) ∧ Aside0 (Kd.S (Kd.slice 3 (Kd.int .i64)) 27 w' w.heap.size (fun _ => True) v3 x3_1) ∧ Aside0 (Below w.heap.size w w'))
  case atStart => exact ⟨(y195), (0), (by first | rfl | (simp; done) | (simp [*]; done)), H', ⟨Nat.le_refl _⟩, ⟨by (with_reducible repeat (first | apply Kd.S_alloc | apply Kd.S_drewN | apply Kd.S_drew)); exact HO197.out⟩, ⟨by repeat (first | (with_reducible first | exact HB.out | apply below_alloc | apply pw_below_drewN | apply below_drew1) | exact HB.out)⟩⟩
  case round =>
    clear H'
    try clear p2
    obtain ⟨x3_1, x9_1, rfl, HA, HK1, HO_3, HB⟩ := hrel
    cases gk with
    | zero => exact absurd HA.out (by simp [impl_copyLists.l0])
    | succ k1 =>
      have H := HA.out
      clear HA
      simp only [impl_copyLists.l0] at H
      by_cases c4 : x9_1 < (l0.length : Int)
      · rw [if_pos c4] at H
        have c4b0 : decide (x9_1 < (l0.length : Int)) = true := decide_eq_true c4
        clear c4
        by_cases c5 : 0 ≤ x9_1
        · rw [if_pos c5] at H
          have c5b0 : decide (0 ≤ x9_1) = true := decide_eq_true c5
          clear c5
          by_cases c6 : x9_1 < (l0.length : Int)
          · rw [if_pos c6] at H
            have c6b0 : decide (x9_1 < (l0.length : Int)) = true := decide_eq_true c6
            clear c6
            obtain ⟨y199, hy199⟩ : ∃ y_ : List Int, y_ = (([] : List Int)) := ⟨_, rfl⟩
            replace H : (if y199.length + (rd_L3 l0 x9_1).length < 17592186044416 then (if x3_1.length < 5864062014805 then (impl_copyLists.l0 k1 (x3_1 ++ [(y199 ++ (rd_L3 l0 x9_1))]) l0 (l0.length : Int) (wrap64 (x9_1 + 1))) else (none)) else (none)) = some r := by first | (rw [hy199]; with_reducible exact H) | (have H2_ := (Option.bind_some _ _).symm.trans H; rw [hy199]; with_reducible exact H2_) | (have H2_ := (Option.bind_some _ _).symm.trans H; with_reducible exact H2_) | with_reducible exact H | (rw [hy199]; exact H) | exact H
            have Ny199 := Aside0.mk hy199
            clear hy199
            by_cases c7 : y199.length + (rd_L3 l0 x9_1).length < 17592186044416
            · rw [if_pos c7] at H
              have LMc7 := Aside0.mk c7
              clear c7
              obtain ⟨y202, hy202⟩ : ∃ y_ : List Int, y_ = (y199 ++ (rd_L3 l0 x9_1)) := ⟨_, rfl⟩
              replace H : (if x3_1.length < 5864062014805 then (impl_copyLists.l0 k1 (x3_1 ++ [y202]) l0 (l0.length : Int) (wrap64 (x9_1 + 1))) else (none)) = some r := by first | (rw [hy202]; with_reducible exact H) | (have H2_ := (Option.bind_some _ _).symm.trans H; rw [hy202]; with_reducible exact H2_) | (have H2_ := (Option.bind_some _ _).symm.trans H; with_reducible exact H2_) | with_reducible exact H | (rw [hy202]; exact H) | exact H
              have Ny202 := Aside0.mk hy202
              clear hy202
              by_cases c8 : x3_1.length < 5864062014805
              · rw [if_pos c8] at H
                have LMc8 := Aside0.mk c8
                clear c8
                obtain ⟨y205, hy205⟩ : ∃ y_ : List (List Int), y_ = (x3_1 ++ [y202]) := ⟨_, rfl⟩
                replace H : (impl_copyLists.l0 k1 y205 l0 (l0.length : Int) (wrap64 (x9_1 + 1))) = some r := by first | (rw [hy205]; with_reducible exact H) | (have H2_ := (Option.bind_some _ _).symm.trans H; rw [hy205]; with_reducible exact H2_) | (have H2_ := (Option.bind_some _ _).symm.trans H; with_reducible exact H2_) | with_reducible exact H | (rw [hy205]; exact H) | exact H
                have Ny205 := Aside0.mk hy205
                clear hy205
                have H' := Aside0.mk H
                clear H
                have p198 : 0 ≤ (x9_1 : Int) := of_decide_eq_true (by first | (with_reducible assumption) | assumption)
                have q198 : x9_1 < (l0.length : Int) := of_decide_eq_true (by first | (with_reducible assumption) | assumption)
                obtain ⟨ad198, A198_0, c198_0, e198, hx198_0, hl198_0, hi198_0⟩ := at_L3 HR0.out x9_1 p198 q198
                cases e198
                (try replace hx198_0 := (HB.out.cell (World.block_lt_of_cell? w _ hx198_0)).trans hx198_0)
                have HR198_0 := Aside0.mk hi198_0
                have HC198_0 := Aside0.mk hl198_0
                clear hi198_0 hl198_0
                replace p198 := eq_true p198
                replace q198 := eq_true q198
                go_wp2_with (first | ((with_reducible refine gate_dst (N := 14) rfl ?_); refine Kd.R_lit (Kd.int .i64) _ 3 ?hg (N := 14) ?hd (xs := ([] : List Int)) (inner := []) (ok := fun _ => True) (okp := fun _ => True) ?hr ?hp (fun _ hk => hk) trivial (Below.refl _ _) (Nat.le_refl _) (by simp) ?_; (case hd => rfl); (case hg => rfl); (case hr => first | (go_simp; done) | (go_simp; rfl)); (case hp => exact (Reps.none _ _)); intro v200 w9 ho10 hb hg_ hnew_; clear hg_ hnew_; (first | rw [← Ny199.out] at ho10 | (simp only [Int.reduceToNat] at ho10; rw [← Ny199.out] at ho10)); have n0_ := Aside0.mk (Kd.S_elder' (by (with_reducible repeat (first | apply Kd.S_alloc | apply Kd.S_drewN | apply Kd.S_drew)); exact HO_3.out) (Kd.R_base ho10) hb); have n1_ := Aside0.mk (Kd.R_lower ho10 (below_size (by repeat (first | (with_reducible first | exact HB.out | apply below_alloc | apply pw_below_drewN | apply below_drew1) | exact HB.out)))); have n2_ := Aside0.mk (below_step (by repeat (first | (with_reducible first | exact HB.out | apply below_alloc | apply pw_below_drewN | apply below_drew1) | exact HB.out)) hb); clear HO_3; clear HB; have HO_3 := n0_; have HO201 := n1_; have HB := n2_; clear n0_ n1_ n2_; clear hb ho10) | ((with_reducible refine gate_builtin (b := .append) (xs := #[.tmp 14, .tmp 15]) rfl ?_); at_builtin; refine Kd.R_append_rows (Kd.int .i64) (w0 := w) w.heap.size rfl (.tmp 14) (.tmp 15) 27 3 (.int .i64 0) 8 rfl Try.underlying27 info3 rfl (by decide) (by omega) v200 y199 (rd_L3 l0 x9_1) _ _ _ (fun _ => True) (fun _ => False) rfl rfl ?aO ?aR (fun _ _ h => h) (fun _ h => h.elim) ?aF ?aB ?aS ?aL ?_; (case aR => repeat (first | exact (Kd.C_below HR198_0.out HB.out) | (with_reducible refine Kd.C_alloc ?_ _) | (with_reducible refine Kd.C_drewN ?_ _) | (with_reducible refine Kd.C_drew ?_))); (case aB => exact (by repeat (first | (with_reducible first | exact HB.out | apply below_alloc | apply pw_below_drewN | apply below_drew1) | exact HB.out))); (case aF => exact (fun _ _ => trivial)); (case aO => exact (by (with_reducible repeat (first | apply Kd.R_alloc | apply Kd.R_drewN | apply Kd.R_drew)); exact HO201.out)); (case aS => exact (below_size (by repeat (first | (with_reducible first | exact HB.out | apply below_alloc | apply pw_below_drewN | apply below_drew1) | exact HB.out)))); (case aL => have := LMc7.out; omega); intro v203 w11 ho hb hg hat; rw [← Ny202.out] at ho; have n0_ := Aside0.mk (Kd.S_after (ok := (fun _ => True)) (by (with_reducible repeat (first | apply Kd.S_alloc | apply Kd.S_drewN | apply Kd.S_drew)); exact HO_3.out) hg hat); have n1_ := Aside0.mk (hb); have n2_ := Aside0.mk (ho); clear HO_3; clear HB; clear HO201; have HO_3 := n0_; have HB := n1_; have HO204 := n2_; clear n0_ n1_ n2_; clear ho hb hg hat; obtain ⟨Ao13, co13, eo13⟩ := Kd.R_slice HO204.out; subst eo13) | ((with_reducible refine gate_builtin (b := .append) (xs := #[.tmp 13, .tmp 17]) rfl ?_); at_builtin; refine Kd.S_append (Kd.slice 3 (Kd.int .i64)) (w0 := w) w.heap.size rfl (.tmp 13) (.tmp 17) 23 27 (.slice none 0 0) 24 rfl Try.underlying23 info27 rfl (by decide) (by omega) u3 x3_1 y202 [.slice Ao13 y202.length co13] (fun _ => True) (fun k_ => some k_ = (.slice Ao13 y202.length co13 : Value).ownBlock) rfl rfl ?aP (fun k_ hk_ => ((Kd.R_mono (ok' := fun k_ => ((fun _ => True)) k_ ∧ some k_ ≠ (u3 : Value).ownBlock) (Kd.R_apart' (HO204.out) (Kd.S_typed HO_3.out) (by decide)) (fun k_ hk => ⟨trivial, hk.2⟩))).1 k_ hk_.symm) ?aF ?aO ?aB ?aS ?aL ?_; (case aP => exact Kd.M_row (Kd.R_mono (Kd.R_tight rfl (Kd.R_mono (ok' := fun k_ => ((fun _ => True)) k_ ∧ some k_ ≠ (u3 : Value).ownBlock) (Kd.R_apart' (HO204.out) (Kd.S_typed HO_3.out) (by decide)) (fun k_ hk => ⟨trivial, hk.2⟩))) (fun _ h_ => h_))); (case aB => exact (by repeat (first | (with_reducible first | exact HB.out | apply below_alloc | apply pw_below_drewN | apply below_drew1) | exact HB.out))); (case aF => exact (fun _ _ => trivial)); (case aO => exact (by (with_reducible repeat (first | apply Kd.S_alloc | apply Kd.S_drewN | apply Kd.S_drew)); exact Kd.S_mono HO_3.out (fun k_ hk => ⟨trivial, fun e_ => hk.2 e_⟩))); (case aS => exact (below_size (by repeat (first | (with_reducible first | exact HB.out | apply below_alloc | apply pw_below_drewN | apply below_drew1) | exact HB.out)))); (case aL => have := LMc8.out; omega); intro v206 w12 ho hb hg hat; rw [← Ny205.out] at ho; have n0_ := Aside0.mk (hb); have n1_ := Aside0.mk (ho); clear HB; clear HO_3; clear HO204; have HB := n0_; have HO207 := n1_; clear n0_ n1_; clear ho hb hg hat))
                go_roundg k1
                case measure => have := HK1.out; omega
                case rel => exact ⟨(y205), (wrap64 (x9_1 + 1)), (by first | rfl | (simp; done) | (simp [*]; done)), H', ⟨by have := HK1.out; omega⟩, ⟨by (with_reducible repeat (first | apply Kd.S_alloc | apply Kd.S_drewN | apply Kd.S_drew)); exact HO207.out⟩, ⟨by repeat (first | (with_reducible first | exact HB.out | apply below_alloc | apply pw_below_drewN | apply below_drew1) | exact HB.out)⟩⟩
              · rw [if_neg c8] at H
                exact absurd H (by simp)
            · rw [if_neg c7] at H
              exact absurd H (by simp)
          · rw [if_neg c6] at H
            exact absurd H (by simp)
        · rw [if_neg c5] at H
          exact absurd H (by simp)
      · rw [if_neg c4] at H
        have c4b0 : decide (x9_1 < (l0.length : Int)) = false := decide_eq_false c4
        clear c4
        obtain rfl := Option.some.inj H
        go_wp2
        go_ret
        exact ⟨_, by first | rfl | (simp [errW_none, errW_some] <;> rfl) | (simp [*, errW_none, errW_some] <;> rfl), by (with_reducible repeat (first | apply Kd.S_alloc | apply Kd.S_drewN | apply Kd.S_drew)); exact HO_3.out, by repeat (first | (with_reducible first | exact HB.out | apply below_alloc | apply pw_below_drewN | apply below_drew1) | exact HB.out)⟩

/-! ### impl_TurnedPieces: function 25 -/
/-! rows that lie apart, one of them written -/
def RowsF (f : Nat → Nat) (W : World) (base : Nat) (ok : Nat → Prop) (u : Value) (l : List (List Int)) : Prop := (Kd.tag f (Kd.slice 3 (Kd.int .i64))).R 27 W base ok u l.zipIdx
theorem rowsF_at {f : Nat → Nat} {W : World} {base : Nat} {ok : Nat → Prop} {u : Value} {l : List (List Int)} (h : RowsF f W base ok u l) (i : Nat) (hi : i < l.length) :
    ∃ g cap v, u = .slice (some ⟨g, 0, none⟩) l.length cap ∧ W.cell? ⟨g, i, none⟩ = some v ∧ Kd.R (Kd.int .i64) 3 W base (fun k => some k = v.ownBlock) v l[i] ∧ (∀ k, some k = v.ownBlock → ok k) ∧
      ∀ (W' : World) (r2 : List Int), Kd.R (Kd.int .i64) 3 W' base (fun _ => True) v r2 → Kept W W' (fun k => some k = v.ownBlock) → RowsF f W' base ok u (l.set i r2) := by
  obtain ⟨h0, inner, ho, hr⟩ := h
  rw [List.length_zipIdx] at ho
  rcases ho.2 with ⟨_, hn⟩ | ⟨g, cap, cur, eu, hb, hh, hc1, hc2, hc3, hc4⟩
  · omega
  · obtain ⟨v, hv, hR⟩ := hr.2 i (l[i], i) (Kd.zip_at (by simp [hi]))
    have hR : Kd.R (Kd.int .i64) 3 W base (fun k => (ok k ∧ some k ≠ u.ownBlock) ∧ f k = i) v l[i] := hR
    have hv : (inner.drop (i * 1)).take 1 = [v] := hv
    refine ⟨g, cap, v, eu, ?_, Kd.R_tight rfl hR, fun k hk => (hR.1 k hk.symm).1.1, ?_⟩
    · have h1 : cur.toList.take (l.length * 1) = inner := hc4
      have h2 : cur[i]? = some v := by
        rw [← h1] at hv
        have := congrArg (fun z : List Value => z[0]?) hv
        simpa [List.getElem?_take, List.getElem?_drop, hi] using this
      simp [World.cell?, hh, h2]
    · intro W' r2 hR' hkp
      refine ⟨h0, inner, ?_, ?_, fun j p hj => ?_⟩
      · rw [List.length_zipIdx, List.length_set]
        exact own_move ho (fun k hk => hkp.2 k (own_lt ho k hk) (fun e => (hR.1 k e.symm).1.2 hk.symm))
      · have := hr.1
        rw [List.length_zipIdx] at this ⊢
        rw [List.length_set]
        exact this
      · rw [List.getElem?_zipIdx] at hj
        obtain ⟨x, hx, rfl⟩ := Option.map_eq_some_iff.mp hj
        rw [Nat.zero_add]
        by_cases e : i = j
        · subst e
          rw [List.getElem?_set_self hi] at hx
          obtain rfl := Option.some.inj hx
          exact ⟨v, hv, Kd.R_mono (Kd.R_tight rfl hR') (fun k hk => hR.1 k hk.symm)⟩
        · rw [List.getElem?_set_ne e] at hx
          have hM : (Kd.slice 3 (Kd.int .i64)).M W base (fun k => (ok k ∧ some k ≠ u.ownBlock) ∧ f k = j) x ((inner.drop (j * 1)).take 1) := hr.2 j (x, j) (Kd.zip_at hx)
          have hN : (Kd.slice 3 (Kd.int .i64)).M W' base (fun k => (ok k ∧ some k ≠ u.ownBlock) ∧ f k = j) x ((inner.drop (j * 1)).take 1) := Kd.M_step hM (fun k hk hlt => hkp.2 k hlt (fun e2 => e ((hR.1 k e2.symm).2.symm.trans hk.2)))
          exact hN
def turn1 (p : List Int) : List Int := (p.set 0 (rd p 1)).set 1 (rd p 0)
def impl_TurnedPieces.l0 : Nat → Int → List (List Int) → Int → Option (List (List Int))
  | 0, _, _, _ => none
  | k + 1, wd, x, i => if i < (x.length : Int) then (if 0 ≤ i ∧ (rd_L3 x i).length = 2 then (if rd (rd_L3 x i) 1 > rd (rd_L3 x i) 0 then (if rd (rd_L3 x i) 1 ≤ wd then (impl_TurnedPieces.l0 k wd (x.set i.toNat (turn1 (rd_L3 x i))) (wrap64 (i + 1))) else (impl_TurnedPieces.l0 k wd x (wrap64 (i + 1)))) else (impl_TurnedPieces.l0 k wd x (wrap64 (i + 1)))) else none) else some x
theorem impl_TurnedPieces.mono_l : ∀ k, (∀ y0 y1 y2, LeO (impl_TurnedPieces.l0 k y0 y1 y2) (impl_TurnedPieces.l0 (k + 1) y0 y1 y2))
  | 0 => fun _ _ _ r h => by simp [impl_TurnedPieces.l0] at h
  | k + 1 => by
    have ih0 := impl_TurnedPieces.mono_l k
    intro y0 y1 y2
    unfold impl_TurnedPieces.l0
    repeat' first
      | (with_reducible exact ih0 _ _ _)
      | (with_reducible exact LeO.refl _)
      | (with_reducible exact LeO.none _)
      | (with_reducible refine LeO.ite ?_ ?_)
def impl_TurnedPieces.f (k : Nat) (l0 : List (List Int)) (a1 : Int) : Option (List (List Int) × Bool) := (impl_PiecesFit.f a1 l0).bind fun t => if t = true then ((impl_copyLists.f k l0).bind fun o => (impl_TurnedPieces.l0 k a1 o 0).bind fun z => some (z, true)) else some ([], false)
theorem impl_TurnedPieces.mono : ∀ a0 a1 k, LeO (impl_TurnedPieces.f k a0 a1) (impl_TurnedPieces.f (k + 1) a0 a1) := by
  intro a0 a1 k
  unfold impl_TurnedPieces.f
  refine LeO.bind (LeO.refl _) (fun _ => LeO.ite (LeO.bind (impl_copyLists.mono _ k) (fun _ => LeO.bind (impl_TurnedPieces.mono_l k _ _ _) (fun _ => LeO.refl _))) (LeO.refl _))
set_option maxHeartbeats 4000000 in
set_option maxRecDepth 100000 in
theorem impl_TurnedPieces.calls (k : Nat) (A0 : Option Addr) (c0 : Nat) (l0 : List (List Int)) (a1 : Int) (r1 : List (List Int)) (r2 : Bool) (w : World) (hr0 : Kd.C (Kd.slice 3 (Kd.int .i64)) w A0 l0.length l0) (hc0 : l0.length ≤ c0) (h : impl_TurnedPieces.f k l0 a1 = some (r1, r2)) :
    Calls Try.prog 25 #[.slice A0 l0.length c0, .int .i64 a1] w fun e w' => ∃ v0_ : Value, e = .returned (.tuple #[v0_, .bool r2]) ∧ Kd.S (Kd.slice 3 (Kd.int .i64)) 27 w' w.heap.size (fun _ => True) v0_ r1 ∧ Below w.heap.size w w' := by
  obtain ⟨t, ht, h⟩ := Option.bind_eq_some_iff.mp h
  have HT := Aside0.mk ht
  have HR := Aside0.mk hr0
  have HC := Aside0.mk hc0
  clear ht hr0 hc0
  go_enter Try.func25, Try.ntmps25
  go_wp2_with fail
  refine (impl_PiecesFit.calls a1 A0 c0 l0 t w HR.out HC.out HT.out).mono ?_
  rintro e w2 ⟨rfl, hb⟩
  have HB := Aside0.mk hb
  clear hb
  cases t with
  | false =>
    obtain ⟨rfl, rfl⟩ := Prod.mk.inj (Option.some.inj (show some ([], false) = some (r1, r2) from h))
    clear h
    go_wp2
    go_ret2
    exact ⟨_, rfl, Kd.S_nil _ _ _ _ _, HB.out⟩
  | true =>
    replace h : ((impl_copyLists.f k l0).bind fun o => (impl_TurnedPieces.l0 k a1 o 0).bind fun z => some (z, true)) = some (r1, r2) := h
    obtain ⟨o, ho, h⟩ := Option.bind_eq_some_iff.mp h
    obtain ⟨z, hz, h⟩ := Option.bind_eq_some_iff.mp h
    obtain ⟨rfl, rfl⟩ := Prod.mk.inj (Option.some.inj h)
    have HO := Aside0.mk ho
    have HZ := Aside0.mk hz
    clear ho hz h
    go_wp2_with fail
    refine (impl_copyLists.calls k A0 c0 l0 o w2 (Kd.C_below HR.out HB.out) HC.out HO.out).mono ?_
    rintro e w3 ⟨v3, rfl, hs3, hb3⟩
    have hs3' := Kd.S_lower hs3 (below_size HB.out)
    obtain ⟨f, hs4⟩ := hs3'
    obtain ⟨A3, c3, rfl⟩ := Kd.R_slice (Kd.S_R hs3)
    have HI := Aside0.mk (show RowsF f w3 w.heap.size (fun _ => True) (.slice A3 o.length c3) o ∧ Below w.heap.size w w3 from ⟨hs4, below_step HB.out hb3⟩)
    clear hs3 hs4 hb3 HB
    go_wp2
    go_loopg [17] k (fun kq v17 w' => ∃ (x : List (List Int)) (i : Int), v17 = .int .i64 i ∧ Aside0 (x.length = o.length) ∧ Aside0 (impl_TurnedPieces.l0 kq a1 x i = some z) ∧ Aside0 (kq ≤ k) ∧ Aside0 (RowsF f w' w.heap.size (fun _ => True) (.slice A3 o.length c3) x ∧ Below w.heap.size w w'))
    case atStart => exact ⟨o, 0, rfl, ⟨rfl⟩, HZ, ⟨Nat.le_refl _⟩, HI⟩
    case round =>
      clear HI HZ
      obtain ⟨x, i, rfl, HL, HA, HK1, HI⟩ := hrel
      cases gk with
      | zero => exact absurd HA.out (by simp [impl_TurnedPieces.l0])
      | succ k1 =>
        have H := HA.out
        clear HA
        simp only [impl_TurnedPieces.l0] at H
        by_cases c1 : i < (x.length : Int)
        · rw [if_pos c1] at H
          have hl := HL.out
          have c1b0 : decide (i < (o.length : Int)) = true := decide_eq_true (by omega)
          by_cases c2 : 0 ≤ i ∧ (rd_L3 x i).length = 2
          · rw [if_pos c2] at H
            obtain ⟨c4, c5⟩ := c2
            have hi : (i : Int).toNat < x.length := by omega
            obtain ⟨g, cap, v, eu, hcell, hvr, hvk, hwr⟩ := rowsF_at HI.out.1 (i : Int).toNat hi
            have hrd : rd_L3 x i = x[(i : Int).toNat]'hi := by simp [rd_L3, List.getD_eq_getElem?_getD, hi]
            rw [← hrd] at hvr
            injection eu with eA en ec
            subst eA
            obtain ⟨p, hp⟩ : ∃ p, rd_L3 x i = p := ⟨_, rfl⟩
            rw [hp] at hvr c5 H
            obtain ⟨go, co, ev, hgb, _, _, _⟩ := Kd.R_form hvr (by omega)
            have HGB := Aside0.mk hgb
            clear hgb
            subst ev
            rw [c5] at hvr hcell hwr
            obtain ⟨hx0, hf0⟩ := Kd.R_celln 0 hvr 0 (by omega) (by omega)
            obtain ⟨hx1, hf1⟩ := Kd.R_celln 0 hvr 1 (by omega) (by omega)
            replace hx0 : wr.cell? ⟨go, 0, none⟩ = some (.int .i64 (rd p 0)) := hx0
            replace hx1 : wr.cell? ⟨go, 1, none⟩ = some (.int .i64 (rd p 1)) := hx1
            replace hf0 : wr.frozen? ⟨go, 0, none⟩ = false := hf0
            replace hf1 : wr.frozen? ⟨go, 1, none⟩ = false := hf1
            obtain ⟨p0, hp0⟩ : ∃ p0, rd p 0 = p0 := ⟨_, rfl⟩
            obtain ⟨p1, hp1⟩ : ∃ p1, rd p 1 = p1 := ⟨_, rfl⟩
            rw [hp0] at hx0 H
            rw [hp1] at hx1 H
            have HVR := Aside0.mk hvr
            have HWR := Aside0.mk hwr
            have HP := Aside0.mk hp
            have HP0 := Aside0.mk hp0
            have HP1 := Aside0.mk hp1
            have C5 := Aside0.mk c5
            replace c1 : (i < (o.length : Int)) = True := eq_true (by omega)
            replace c4 := eq_true c4
            clear hvr hvk hwr hl hi hrd en ec hp hp0 hp1 c5
            by_cases c6 : p1 > p0
            · rw [if_pos c6] at H
              have c6b0 : decide (p1 > p0) = true := decide_eq_true c6
              clear c6
              by_cases c7 : p1 ≤ a1
              · rw [if_pos c7] at H
                have c7b0 : decide (p1 ≤ a1) = true := decide_eq_true c7
                clear c7
                have H' := Aside0.mk H
                clear H
                go_wp2
                go_quiet (fail)
                go_wp2
                replace hx0 : (wr.drewN nq).cell? ⟨go, 0, none⟩ = some (.int .i64 p0) := hx0
                replace hx1 : (wr.drewN nq).cell? ⟨go, 1, none⟩ = some (.int .i64 p1) := hx1
                replace hf0 : (wr.drewN nq).frozen? ⟨go, 0, none⟩ = false := hf0
                replace hf1 : (wr.drewN nq).frozen? ⟨go, 1, none⟩ = false := hf1
                have HVR2 := Aside0.mk (Kd.R_drewN HVR.out nq)
                have HBW := Aside0.mk (pw_below_drewN HI.out.2 nq)
                have HKW := Aside0.mk (Kept.drewN (Kept.refl wr (fun k => some k = (Value.slice (some ⟨go, 0, none⟩) 2 co).ownBlock)) nq)
                generalize wr.drewN nq = wq at hx0 hx1 hf0 hf1 HVR2 HBW HKW ⊢
                go_big_region
                have HRW := Aside0.mk (Kd.R_drew (Kd.R_putg (Kd.R_putg HVR2.out 0 p1).1 1 p0).1)
                have HKW2 := Aside0.mk (Kept.drew (Kept.setCell (Kept.setCell HKW.out (p := ⟨go, 0, none⟩) (.inl rfl) (.int .i64 p1)) (p := ⟨go, 1, none⟩) (.inl rfl) (.int .i64 p0)))
                have HBW2 := Aside0.mk (below_drew (below_set (j := 1) (v := .int .i64 p0) (below_set (j := 0) (v := .int .i64 p1) HBW.out HGB.out) HGB.out))
                clear hx0 hx1 hf0 hf1
                go_wp2
                go_roundg k1
                case measure => have := HK1.out; omega
                case rel =>
                  have ht : (p.set 0 p1).set 1 p0 = turn1 p := by rw [← HP0.out, ← HP1.out]; rfl
                  have hrw := HRW.out
                  have h2 := HWR.out _ (turn1 p) (by rw [← ht]; exact Kd.R_mono hrw (fun _ _ => trivial)) HKW2.out
                  exact ⟨x.set (i : Int).toNat (turn1 p), wrap64 (i + 1), by first | rfl | (simp; done), ⟨by rw [List.length_set]; exact HL.out⟩, H', ⟨by have := HK1.out; omega⟩, ⟨h2, HBW2.out⟩⟩
              · rw [if_neg c7] at H
                have c7b0 : decide (p1 ≤ a1) = false := decide_eq_false c7
                clear c7
                have H' := Aside0.mk H
                clear H
                go_wp2
                go_quiet (fail)
                go_wp2
                go_roundg k1
                case measure => have := HK1.out; omega
                case rel => exact ⟨x, wrap64 (i + 1), by first | rfl | (simp; done), HL, H', ⟨by have := HK1.out; omega⟩, ⟨Kd.R_drewN HI.out.1 _, pw_below_drewN HI.out.2 _⟩⟩
            · rw [if_neg c6] at H
              have c6b0 : decide (p1 > p0) = false := decide_eq_false c6
              clear c6
              have H' := Aside0.mk H
              clear H
              go_wp2
              go_quiet (fail)
              go_wp2
              go_roundg k1
              case measure => have := HK1.out; omega
              case rel => exact ⟨x, wrap64 (i + 1), by first | rfl | (simp; done), HL, H', ⟨by have := HK1.out; omega⟩, ⟨Kd.R_drewN HI.out.1 _, pw_below_drewN HI.out.2 _⟩⟩
          · rw [if_neg c2] at H
            exact absurd H (by simp)
        · rw [if_neg c1] at H
          have hl := HL.out
          have c1b0 : decide (i < (o.length : Int)) = false := decide_eq_false (by omega)
          clear c1 hl
          obtain rfl := Option.some.inj H
          clear H
          go_wp2
          go_ret2
          exact ⟨_, rfl, ⟨f, HI.out.1⟩, HI.out.2⟩

/-! ### impl_WasteOf: function 26 -/
def impl_WasteOf.f (k : Nat) (a0 : Int) (a1 : Int) (l2 : List (List Int)) : Option (Int) := (impl_PiecesFit.f a0 l2).bind fun t208 => (if t208 = true then ((impl_within.f a1 0 1200).bind fun t209 => (if t209 = true then ((impl_areaOf.f k l2).bind fun t210 => (some (mx (-1) (wrap64 ((wrap64 (a0 * a1)) - t210))))) else (some (-1)))) else (some (-1)))
theorem impl_WasteOf.mono : ∀ a0 a1 a2 k, LeO (impl_WasteOf.f k a0 a1 a2) (impl_WasteOf.f (k + 1) a0 a1 a2) := by
  intro a0 a1 a2 k
  unfold impl_WasteOf.f
  repeat' first
      | (with_reducible exact impl_areaOf.mono _ _)
      | (with_reducible exact LeO.refl _)
      | (with_reducible exact LeO.none _)
      | (with_reducible refine LeO.ite ?_ ?_)
      | (with_reducible refine LeO.bind ?_ (fun _ => ?_))
      | exact impl_areaOf.mono _ _
      | exact LeO.none _
      | refine LeO.ite ?_ ?_
      | refine LeO.bind ?_ (fun _ => ?_)
set_option maxHeartbeats 8000000 in
set_option maxRecDepth 100000 in
theorem impl_WasteOf.calls (k : Nat) (a0 : Int) (a1 : Int) (A2 : Option Addr) (c2 : Nat) (l2 : List (List Int)) (r : Int) (w : World) (hr2 : Kd.C (Kd.slice 3 (Kd.int .i64)) w A2 l2.length l2) (hc2 : l2.length ≤ c2) (h : impl_WasteOf.f k a0 a1 l2 = some r) :
    Calls Try.prog 26 #[.int .i64 a0, .int .i64 a1, .slice A2 l2.length c2] w fun e w' => e = .returned (.int .i64 r) ∧ Below w.heap.size w w' := by
  have HR2 := Aside0.mk hr2
  have HC2 := Aside0.mk hc2
  clear hr2 hc2
  have HB := Aside0.mk (Below.refl w.heap.size w)
  have H : ((impl_PiecesFit.f a0 l2).bind fun t208 => (if t208 = true then ((impl_within.f a1 0 1200).bind fun t209 => (if t209 = true then ((impl_areaOf.f k l2).bind fun t210 => (some (mx (-1) (wrap64 ((wrap64 (a0 * a1)) - t210))))) else (some (-1)))) else (some (-1)))) = some r := h
  clear h
  replace H := Option.bind_eq_some_iff.mp H
  obtain ⟨t208, A40, H⟩ := H
  replace H : (if t208 = true then ((impl_within.f a1 0 1200).bind fun t209 => (if t209 = true then ((impl_areaOf.f k l2).bind fun t210 => (some (mx (-1) (wrap64 ((wrap64 (a0 * a1)) - t210))))) else (some (-1)))) else (some (-1))) = some r := H
  have A4 := Aside0.mk A40
  clear A40
  by_cases c5 : t208 = true
  · subst c5
    have H1 : ((impl_within.f a1 0 1200).bind fun t209 => (if t209 = true then ((impl_areaOf.f k l2).bind fun t210 => (some (mx (-1) (wrap64 ((wrap64 (a0 * a1)) - t210))))) else (some (-1)))) = some r := by rw [if_pos rfl] at H; exact H
    clear H
    have H := H1
    clear H1
    replace H := Option.bind_eq_some_iff.mp H
    obtain ⟨t209, A60, H⟩ := H
    replace H : (if t209 = true then ((impl_areaOf.f k l2).bind fun t210 => (some (mx (-1) (wrap64 ((wrap64 (a0 * a1)) - t210))))) else (some (-1))) = some r := H
    have A6 := Aside0.mk A60
    clear A60
    by_cases c7 : t209 = true
    · subst c7
      have H1 : ((impl_areaOf.f k l2).bind fun t210 => (some (mx (-1) (wrap64 ((wrap64 (a0 * a1)) - t210))))) = some r := by rw [if_pos rfl] at H; exact H
      clear H
      have H := H1
      clear H1
      replace H := Option.bind_eq_some_iff.mp H
      obtain ⟨t210, A80, H⟩ := H
      replace H : (some (mx (-1) (wrap64 ((wrap64 (a0 * a1)) - t210)))) = some r := H
      have A8 := Aside0.mk A80
      clear A80
      obtain ⟨ji9, hji9⟩ : ∃ j_ : Int, (mx (-1) (wrap64 ((wrap64 (a0 * a1)) - t210))) = j_ := ⟨_, rfl⟩
      replace H : (some ji9) = some r := by first | (rw [hji9] at H; exact H) | (simp only [hji9] at H ⊢; exact H)
      (try rw [hji9] at A4)
      (try rw [hji9] at A6)
      (try rw [hji9] at A8)
      have hji9_ : (if (-1) < (wrap64 ((wrap64 (a0 * a1)) - t210)) then (wrap64 ((wrap64 (a0 * a1)) - t210)) else (-1)) = ji9 := hji9
      obtain rfl := Option.some.inj H
      go_enter Try.func26, Try.ntmps26
      go_wp2_with (first | ((with_reducible refine gate_callee (f := 21) rfl ?_); refine goesL_ (some 9) rfl rfl Try.func21 (by kernel_rfl) rfl #[.int .i64 a0, .slice A2 l2.length c2] rfl (by (try simp only [List.map_toArray, List.map_cons, List.map_nil]); first | done | rfl | (simp only [List.length_drop, List.length_take]; rfl)) ?_; (with_reducible refine (impl_PiecesFit.calls a0 _ _ l2 true _ ?side1 ?side2 A4.out).mono ?_); (case side1 => repeat (first | exact HR2.out | (with_reducible refine Kd.C_alloc ?_ _) | (with_reducible refine Kd.C_drewN ?_ _) | (with_reducible refine Kd.C_drew ?_))); (case side2 => exact HC2.out); rintro e w10 ⟨rfl, hb⟩; refine ⟨_, rfl, ?_⟩; have n0_ := Aside0.mk (below_step (by repeat (first | (with_reducible first | exact HB.out | apply below_alloc | apply pw_below_drewN | apply below_drew1) | exact HB.out)) hb); clear HB; have HB := n0_; clear n0_; (try clear hb); (try clear hb2); (try clear hk); (try clear hi)) | (go_at_call 46; (with_reducible refine (impl_within.calls a1 0 1200 true _ A6.out).mono ?_); rintro e w' ⟨rfl, ⟨nd, rfl⟩⟩) | ((with_reducible refine gate_callee (f := 56) rfl ?_); refine goesL_ (some 20) rfl rfl Try.func56 (by kernel_rfl) rfl #[.slice A2 l2.length c2] rfl (by (try simp only [List.map_toArray, List.map_cons, List.map_nil]); first | done | rfl | (simp only [List.length_drop, List.length_take]; rfl)) ?_; (with_reducible refine (impl_areaOf.calls k _ _ l2 t210 _ ?side1 ?side2 A8.out).mono ?_); (case side1 => repeat (first | exact (Kd.C_below HR2.out (by repeat (first | (with_reducible first | exact HB.out | apply below_alloc | apply pw_below_drewN | apply below_drew1) | exact HB.out))) | (with_reducible refine Kd.C_alloc ?_ _) | (with_reducible refine Kd.C_drewN ?_ _) | (with_reducible refine Kd.C_drew ?_))); (case side2 => exact HC2.out); rintro e w' ⟨rfl, ⟨nd, rfl⟩⟩; refine ⟨_, rfl, ?_⟩))
      go_ret
      exact ⟨by first | rfl | (simp [errW_none, errW_some] <;> rfl) | (simp only [← hji9]; first | rfl | (simp [errW_none, errW_some] <;> rfl)) | (simp [*, errW_none, errW_some] <;> rfl), by repeat (first | (with_reducible first | exact HB.out | apply below_alloc | apply pw_below_drewN | apply below_drew1) | exact HB.out)⟩
    · replace c7 := Bool.eq_false_iff.mpr c7
      subst c7
      have H1 : (some (-1)) = some r := by rw [if_neg (show ¬ (false = true) by decide)] at H; exact H
      clear H
      have H := H1
      clear H1
      obtain rfl := Option.some.inj H
      go_enter Try.func26, Try.ntmps26
      go_wp2_with (first | ((with_reducible refine gate_callee (f := 21) rfl ?_); refine goesL_ (some 9) rfl rfl Try.func21 (by kernel_rfl) rfl #[.int .i64 a0, .slice A2 l2.length c2] rfl (by (try simp only [List.map_toArray, List.map_cons, List.map_nil]); first | done | rfl | (simp only [List.length_drop, List.length_take]; rfl)) ?_; (with_reducible refine (impl_PiecesFit.calls a0 _ _ l2 true _ ?side1 ?side2 A4.out).mono ?_); (case side1 => repeat (first | exact HR2.out | (with_reducible refine Kd.C_alloc ?_ _) | (with_reducible refine Kd.C_drewN ?_ _) | (with_reducible refine Kd.C_drew ?_))); (case side2 => exact HC2.out); rintro e w11 ⟨rfl, hb⟩; refine ⟨_, rfl, ?_⟩; have n0_ := Aside0.mk (below_step (by repeat (first | (with_reducible first | exact HB.out | apply below_alloc | apply pw_below_drewN | apply below_drew1) | exact HB.out)) hb); clear HB; have HB := n0_; clear n0_; (try clear hb); (try clear hb2); (try clear hk); (try clear hi)) | (go_at_call 46; (with_reducible refine (impl_within.calls a1 0 1200 false _ A6.out).mono ?_); rintro e w' ⟨rfl, ⟨nd, rfl⟩⟩))
      go_ret
      exact ⟨by first | rfl | (simp [errW_none, errW_some] <;> rfl) | (simp [*, errW_none, errW_some] <;> rfl), by repeat (first | (with_reducible first | exact HB.out | apply below_alloc | apply pw_below_drewN | apply below_drew1) | exact HB.out)⟩
  · replace c5 := Bool.eq_false_iff.mpr c5
    subst c5
    have H1 : (some (-1)) = some r := by rw [if_neg (show ¬ (false = true) by decide)] at H; exact H
    clear H
    have H := H1
    clear H1
    obtain rfl := Option.some.inj H
    go_enter Try.func26, Try.ntmps26
    go_wp2_with (first | ((with_reducible refine gate_callee (f := 21) rfl ?_); refine goesL_ (some 9) rfl rfl Try.func21 (by kernel_rfl) rfl #[.int .i64 a0, .slice A2 l2.length c2] rfl (by (try simp only [List.map_toArray, List.map_cons, List.map_nil]); first | done | rfl | (simp only [List.length_drop, List.length_take]; rfl)) ?_; (with_reducible refine (impl_PiecesFit.calls a0 _ _ l2 false _ ?side1 ?side2 A4.out).mono ?_); (case side1 => repeat (first | exact HR2.out | (with_reducible refine Kd.C_alloc ?_ _) | (with_reducible refine Kd.C_drewN ?_ _) | (with_reducible refine Kd.C_drew ?_))); (case side2 => exact HC2.out); rintro e w12 ⟨rfl, hb⟩; refine ⟨_, rfl, ?_⟩; have n0_ := Aside0.mk (below_step (by repeat (first | (with_reducible first | exact HB.out | apply below_alloc | apply pw_below_drewN | apply below_drew1) | exact HB.out)) hb); clear HB; have HB := n0_; clear n0_; (try clear hb); (try clear hb2); (try clear hk); (try clear hi)))
    go_ret
    exact ⟨by first | rfl | (simp [errW_none, errW_some] <;> rfl) | (simp [*, errW_none, errW_some] <;> rfl), by repeat (first | (with_reducible first | exact HB.out | apply below_alloc | apply pw_below_drewN | apply below_drew1) | exact HB.out)⟩

mutual
def laws_FnShelves.l0 : Nat → Int → List (List Int) → List (S44) → Int → List (S44) → Int → List Int → Int → Int → Int → Int → Option (Bool)
  | 0, _, _, _, _, _, _, _, _, _, _, _ => none
  | k + 1, x3, x4, x5, x6, x7, x8, x9, x10, x11, x49, x50 => if x50 < x49 then (if 0 ≤ x50 then (if x50 < (x4.length : Int) then (if 1 < ((rd_L3 x4 x50).length : Int) then (laws_FnShelves.l0 k x3 x4 x5 x6 x7 x8 x9 x10 (mx x11 (rd (rd_L3 x4 x50) 1)) x49 (wrap64 (x50 + 1))) else (none)) else (none)) else (none)) else ((impl_PiecesFit.f x3 x4).bind fun t229 => (if t229 = true then (if (x5.length : Int) = (x4.length : Int) then (if (x7.length : Int) = (x4.length : Int) then (if (x9.length : Int) = (x4.length : Int) then (if x8 < x10 then (laws_FnShelves.j1 k x3 x4 x5 x6 x7 x8 x9 true) else (if x8 > x6 then (laws_FnShelves.j1 k x3 x4 x5 x6 x7 x8 x9 true) else ((laws_area.f k x4).bind fun t230 => (if (wrap64 (x6 * x3)) > (wrap64 ((wrap64 (x11 * x3)) + (wrap64 (2 * t230)))) then (laws_FnShelves.j1 k x3 x4 x5 x6 x7 x8 x9 true) else ((impl_DoOverlap.f k x4 x5).bind fun t231 => (if t231 = true then (laws_FnShelves.j1 k x3 x4 x5 x6 x7 x8 x9 true) else ((impl_DoOverlap.f k x4 x7).bind fun t232 => (if t232 = true then (laws_FnShelves.j1 k x3 x4 x5 x6 x7 x8 x9 true) else (if x10 < x11 then (laws_FnShelves.j1 k x3 x4 x5 x6 x7 x8 x9 true) else ((laws_area.f k x4).bind fun t233 => (laws_FnShelves.j1 k x3 x4 x5 x6 x7 x8 x9 (decide ((wrap64 (x10 * x3)) < t233))))))))))))) else (laws_FnShelves.j1 k x3 x4 x5 x6 x7 x8 x9 true)) else (laws_FnShelves.j1 k x3 x4 x5 x6 x7 x8 x9 true)) else (laws_FnShelves.j1 k x3 x4 x5 x6 x7 x8 x9 true)) else (laws_FnShelves.j1 k x3 x4 x5 x6 x7 x8 x9 true)))
def laws_FnShelves.j1 : Nat → Int → List (List Int) → List (S44) → Int → List (S44) → Int → List Int → Bool → Option (Bool)
  | 0, _, _, _, _, _, _, _, _ => none
  | k + 1, x3, x4, x5, x6, x7, x8, x9, x130 => if x130 = true then (some false) else (laws_FnShelves.l1 k x3 x4 x5 x6 x7 x8 x9 (([] : List Int)) (x9.length : Int) 0)
def laws_FnShelves.l1 : Nat → Int → List (List Int) → List (S44) → Int → List (S44) → Int → List Int → List Int → Int → Int → Option (Bool)
  | 0, _, _, _, _, _, _, _, _, _, _ => none
  | k + 1, x3, x4, x5, x6, x7, x8, x9, x14, x133, x134 => if x134 < x133 then (if 0 ≤ x134 then (if x134 < (x9.length : Int) then (if (rd x9 x134) < 0 then (some false) else (if (rd x9 x134) ≥ (x4.length : Int) then (some false) else ((laws_has.f k x14 (rd x9 x134)).bind fun t238 => (if t238 = true then (some false) else (if x134 > 0 then (if 0 ≤ (wrap64 (x134 - 1)) then (if (wrap64 (x134 - 1)) < (x9.length : Int) then (if 0 ≤ (rd x9 (wrap64 (x134 - 1))) then (if (rd x9 (wrap64 (x134 - 1))) < (x4.length : Int) then (if 1 < ((rd_L3 x4 (rd x9 (wrap64 (x134 - 1)))).length : Int) then (if 0 ≤ (rd x9 x134) then (if (rd x9 x134) < (x4.length : Int) then (if 1 < ((rd_L3 x4 (rd x9 x134)).length : Int) then (if (rd (rd_L3 x4 (rd x9 (wrap64 (x134 - 1)))) 1) < (rd (rd_L3 x4 (rd x9 x134)) 1) then (some false) else (if (rd (rd_L3 x4 (rd x9 (wrap64 (x134 - 1)))) 1) = (rd (rd_L3 x4 (rd x9 x134)) 1) then (if (rd x9 (wrap64 (x134 - 1))) > (rd x9 x134) then (some false) else (if x14.length < 17592186044416 then (laws_FnShelves.l1 k x3 x4 x5 x6 x7 x8 x9 (x14 ++ [rd x9 x134]) x133 (wrap64 (x134 + 1))) else (none))) else (if x14.length < 17592186044416 then (laws_FnShelves.l1 k x3 x4 x5 x6 x7 x8 x9 (x14 ++ [rd x9 x134]) x133 (wrap64 (x134 + 1))) else (none)))) else (none)) else (none)) else (none)) else (none)) else (none)) else (none)) else (none)) else (none)) else (if x14.length < 17592186044416 then (laws_FnShelves.l1 k x3 x4 x5 x6 x7 x8 x9 (x14 ++ [rd x9 x134]) x133 (wrap64 (x134 + 1))) else (none))))))) else (none)) else (none)) else (laws_FnShelves.l2 k x3 x4 x5 x6 x7 x8 (x4.length : Int) 0)
def laws_FnShelves.l2 : Nat → Int → List (List Int) → List (S44) → Int → List (S44) → Int → Int → Int → Option (Bool)
  | 0, _, _, _, _, _, _, _, _ => none
  | k + 1, x3, x4, x5, x6, x7, x8, x209, x210 => if x210 < x209 then (if 0 ≤ x210 then (if x210 < (x4.length : Int) then (if x210 < (x5.length : Int) then (if ((rd_T44 x5 x210).f0) < 0 then (some false) else (if ((rd_T44 x5 x210).f1) < 0 then (some false) else (if x210 < (x7.length : Int) then (if ((rd_T44 x7 x210).f0) < 0 then (some false) else (if ((rd_T44 x7 x210).f1) < 0 then (some false) else (if 0 < ((rd_L3 x4 x210).length : Int) then (if (wrap64 (((rd_T44 x5 x210).f0) + (rd (rd_L3 x4 x210) 0))) > x3 then (some false) else (if (wrap64 (((rd_T44 x7 x210).f0) + (rd (rd_L3 x4 x210) 0))) > x3 then (some false) else (if 1 < ((rd_L3 x4 x210).length : Int) then (if (wrap64 (((rd_T44 x5 x210).f1) + (rd (rd_L3 x4 x210) 1))) > x6 then (some false) else (if (wrap64 (((rd_T44 x7 x210).f1) + (rd (rd_L3 x4 x210) 1))) > x8 then (some false) else (laws_FnShelves.l2 k x3 x4 x5 x6 x7 x8 x209 (wrap64 (x210 + 1))))) else (none)))) else (none)))) else (none)))) else (none)) else (none)) else (none)) else ((impl_TurnedPieces.f k x4 x3).bind fun bt272 => (if bt272.2 = true then (if (bt272.1.length : Int) = (x4.length : Int) then ((impl_PiecesFit.f x3 bt272.1).bind fun t276 => (laws_FnShelves.j4 k x3 x4 x5 x8 bt272.1 (!t276))) else (laws_FnShelves.j4 k x3 x4 x5 x8 bt272.1 true)) else (laws_FnShelves.j4 k x3 x4 x5 x8 bt272.1 true)))
def laws_FnShelves.j4 : Nat → Int → List (List Int) → List (S44) → Int → List (List Int) → Bool → Option (Bool)
  | 0, _, _, _, _, _, _ => none
  | k + 1, x3, x4, x5, x8, x19, x318 => if x318 = true then (some false) else (laws_FnShelves.l3 k x3 x4 x5 x8 x19 (x19.length : Int) 0)
def laws_FnShelves.l3 : Nat → Int → List (List Int) → List (S44) → Int → List (List Int) → Int → Int → Option (Bool)
  | 0, _, _, _, _, _, _, _ => none
  | k + 1, x3, x4, x5, x8, x19, x320, x321 => if x321 < x320 then (if 0 ≤ x321 then (if x321 < (x19.length : Int) then (if ((rd_L3 x19 x321).length : Int) = 2 then (if 0 < ((rd_L3 x19 x321).length : Int) then (if 1 < ((rd_L3 x19 x321).length : Int) then (if x321 < (x4.length : Int) then (if 0 < ((rd_L3 x4 x321).length : Int) then (if 1 < ((rd_L3 x4 x321).length : Int) then (if (wrap64 ((rd (rd_L3 x19 x321) 0) * (rd (rd_L3 x19 x321) 1))) = (wrap64 ((rd (rd_L3 x4 x321) 0) * (rd (rd_L3 x4 x321) 1))) then (if (rd (rd_L3 x19 x321) 1) > (rd (rd_L3 x19 x321) 0) then (if (rd (rd_L3 x19 x321) 1) ≤ x3 then (some false) else (laws_FnShelves.l3 k x3 x4 x5 x8 x19 x320 (wrap64 (x321 + 1)))) else (laws_FnShelves.l3 k x3 x4 x5 x8 x19 x320 (wrap64 (x321 + 1)))) else (some false)) else (none)) else (none)) else (none)) else (none)) else (none)) else (some false)) else (none)) else (none)) else ((impl_WasteOf.f k x3 x8 x4).bind fun t287 => ((laws_area.f k x4).bind fun t288 => (if t287 = (wrap64 ((wrap64 (x3 * x8)) - t288)) then (if (x4.length : Int) < 1 then (some true) else (if 0 < (x4.length : Int) then (if 0 < (x5.length : Int) then ((impl_DoOverlap.f k (([rd_L3 x4 0, rd_L3 x4 0] : List (List Int))) (([(⟨(rd_T44 x5 0).f0, (rd_T44 x5 0).f1⟩ : S44), (⟨(rd_T44 x5 0).f0, (rd_T44 x5 0).f1⟩ : S44)] : List (S44)))).bind fun t299 => (some t299)) else (none)) else (none))) else (some false))))
end
def laws_FnShelves.f (k : Nat) (l0 : List Int) : Option (Bool) := if (l0.length : Int) > 1048576 then (some true) else ((spec_MakeStrip.f k l0 0).bind fun bt211 => ((impl_NextShelf.f k bt211.1 bt211.2).bind fun bt215 => ((impl_FirstShelf.f k bt211.1 bt211.2).bind fun bt219 => ((impl_ByHeight.f k bt211.2).bind fun t223 => ((impl_StripBound.f k bt211.1 bt211.2).bind fun t226 => (laws_FnShelves.l0 k bt211.1 bt211.2 bt215.1 bt215.2 bt219.1 bt219.2 t223 t226 0 (bt211.2.length : Int) 0))))))
theorem laws_FnShelves.mono_l : ∀ k, (∀ y0 y1 y2 y3 y4 y5 y6 y7 y8 y9 y10, LeO (laws_FnShelves.l0 k y0 y1 y2 y3 y4 y5 y6 y7 y8 y9 y10) (laws_FnShelves.l0 (k + 1) y0 y1 y2 y3 y4 y5 y6 y7 y8 y9 y10)) ∧ (∀ y0 y1 y2 y3 y4 y5 y6 y7, LeO (laws_FnShelves.j1 k y0 y1 y2 y3 y4 y5 y6 y7) (laws_FnShelves.j1 (k + 1) y0 y1 y2 y3 y4 y5 y6 y7)) ∧ (∀ y0 y1 y2 y3 y4 y5 y6 y7 y8 y9, LeO (laws_FnShelves.l1 k y0 y1 y2 y3 y4 y5 y6 y7 y8 y9) (laws_FnShelves.l1 (k + 1) y0 y1 y2 y3 y4 y5 y6 y7 y8 y9)) ∧ (∀ y0 y1 y2 y3 y4 y5 y6 y7, LeO (laws_FnShelves.l2 k y0 y1 y2 y3 y4 y5 y6 y7) (laws_FnShelves.l2 (k + 1) y0 y1 y2 y3 y4 y5 y6 y7)) ∧ (∀ y0 y1 y2 y3 y4 y5, LeO (laws_FnShelves.j4 k y0 y1 y2 y3 y4 y5) (laws_FnShelves.j4 (k + 1) y0 y1 y2 y3 y4 y5)) ∧ (∀ y0 y1 y2 y3 y4 y5 y6, LeO (laws_FnShelves.l3 k y0 y1 y2 y3 y4 y5 y6) (laws_FnShelves.l3 (k + 1) y0 y1 y2 y3 y4 y5 y6))
  | 0 => ⟨fun _ _ _ _ _ _ _ _ _ _ _ r h => by simp [laws_FnShelves.l0] at h, fun _ _ _ _ _ _ _ _ r h => by simp [laws_FnShelves.j1] at h, fun _ _ _ _ _ _ _ _ _ _ r h => by simp [laws_FnShelves.l1] at h, fun _ _ _ _ _ _ _ _ r h => by simp [laws_FnShelves.l2] at h, fun _ _ _ _ _ _ r h => by simp [laws_FnShelves.j4] at h, fun _ _ _ _ _ _ _ r h => by simp [laws_FnShelves.l3] at h⟩
  | k + 1 => by
    obtain ⟨ih0, ih1, ih2, ih3, ih4, ih5⟩ := laws_FnShelves.mono_l k
    refine ⟨?_, ?_, ?_, ?_, ?_, ?_⟩
    · intro y0 y1 y2 y3 y4 y5 y6 y7 y8 y9 y10
      unfold laws_FnShelves.l0
      repeat' first
      | (with_reducible exact ih0 _ _ _ _ _ _ _ _ _ _ _)
      | (with_reducible exact ih1 _ _ _ _ _ _ _ _)
      | (with_reducible exact ih2 _ _ _ _ _ _ _ _ _ _)
      | (with_reducible exact ih3 _ _ _ _ _ _ _ _)
      | (with_reducible exact ih4 _ _ _ _ _ _)
      | (with_reducible exact ih5 _ _ _ _ _ _ _)
      | (with_reducible exact impl_ByHeight.mono _ _)
      | (with_reducible exact impl_DoOverlap.mono _ _ _)
      | (with_reducible exact impl_FirstShelf.mono _ _ _)
      | (with_reducible exact impl_NextShelf.mono _ _ _)
      | (with_reducible exact impl_StripBound.mono _ _ _)
      | (with_reducible exact impl_TurnedPieces.mono _ _ _)
      | (with_reducible exact impl_WasteOf.mono _ _ _ _)
      | (with_reducible exact laws_area.mono _ _)
      | (with_reducible exact laws_has.mono _ _ _)
      | (with_reducible exact spec_MakeStrip.mono _ _ _)
      | (with_reducible exact LeO.refl _)
      | (with_reducible exact LeO.none _)
      | (with_reducible refine LeO.ite ?_ ?_)
      | (with_reducible refine LeO.bind ?_ (fun _ => ?_))
      | exact ih0 _ _ _ _ _ _ _ _ _ _ _
      | exact ih1 _ _ _ _ _ _ _ _
      | exact ih2 _ _ _ _ _ _ _ _ _ _
      | exact ih3 _ _ _ _ _ _ _ _
      | exact ih4 _ _ _ _ _ _
      | exact ih5 _ _ _ _ _ _ _
      | exact impl_ByHeight.mono _ _
      | exact impl_DoOverlap.mono _ _ _
      | exact impl_FirstShelf.mono _ _ _
      | exact impl_NextShelf.mono _ _ _
      | exact impl_StripBound.mono _ _ _
      | exact impl_TurnedPieces.mono _ _ _
      | exact impl_WasteOf.mono _ _ _ _
      | exact laws_area.mono _ _
      | exact laws_has.mono _ _ _
      | exact spec_MakeStrip.mono _ _ _
      | exact LeO.none _
      | refine LeO.ite ?_ ?_
      | refine LeO.bind ?_ (fun _ => ?_)
    · intro y0 y1 y2 y3 y4 y5 y6 y7
      unfold laws_FnShelves.j1
      repeat' first
      | (with_reducible exact ih0 _ _ _ _ _ _ _ _ _ _ _)
      | (with_reducible exact ih1 _ _ _ _ _ _ _ _)
      | (with_reducible exact ih2 _ _ _ _ _ _ _ _ _ _)
      | (with_reducible exact ih3 _ _ _ _ _ _ _ _)
      | (with_reducible exact ih4 _ _ _ _ _ _)
      | (with_reducible exact ih5 _ _ _ _ _ _ _)
      | (with_reducible exact impl_ByHeight.mono _ _)
      | (with_reducible exact impl_DoOverlap.mono _ _ _)
      | (with_reducible exact impl_FirstShelf.mono _ _ _)
      | (with_reducible exact impl_NextShelf.mono _ _ _)
      | (with_reducible exact impl_StripBound.mono _ _ _)
      | (with_reducible exact impl_TurnedPieces.mono _ _ _)
      | (with_reducible exact impl_WasteOf.mono _ _ _ _)
      | (with_reducible exact laws_area.mono _ _)
      | (with_reducible exact laws_has.mono _ _ _)
      | (with_reducible exact spec_MakeStrip.mono _ _ _)
      | (with_reducible exact LeO.refl _)
      | (with_reducible exact LeO.none _)
      | (with_reducible refine LeO.ite ?_ ?_)
      | (with_reducible refine LeO.bind ?_ (fun _ => ?_))
      | exact ih0 _ _ _ _ _ _ _ _ _ _ _
      | exact ih1 _ _ _ _ _ _ _ _
      | exact ih2 _ _ _ _ _ _ _ _ _ _
      | exact ih3 _ _ _ _ _ _ _ _
      | exact ih4 _ _ _ _ _ _
      | exact ih5 _ _ _ _ _ _ _
      | exact impl_ByHeight.mono _ _
      | exact impl_DoOverlap.mono _ _ _
      | exact impl_FirstShelf.mono _ _ _
      | exact impl_NextShelf.mono _ _ _
      | exact impl_StripBound.mono _ _ _
      | exact impl_TurnedPieces.mono _ _ _
      | exact impl_WasteOf.mono _ _ _ _
      | exact laws_area.mono _ _
      | exact laws_has.mono _ _ _
      | exact spec_MakeStrip.mono _ _ _
      | exact LeO.none _
      | refine LeO.ite ?_ ?_
      | refine LeO.bind ?_ (fun _ => ?_)
    · intro y0 y1 y2 y3 y4 y5 y6 y7 y8 y9
      unfold laws_FnShelves.l1
      repeat' first
      | (with_reducible exact ih0 _ _ _ _ _ _ _ _ _ _ _)
      | (with_reducible exact ih1 _ _ _ _ _ _ _ _)
      | (with_reducible exact ih2 _ _ _ _ _ _ _ _ _ _)
      | (with_reducible exact ih3 _ _ _ _ _ _ _ _)
      | (with_reducible exact ih4 _ _ _ _ _ _)
      | (with_reducible exact ih5 _ _ _ _ _ _ _)
      | (with_reducible exact impl_ByHeight.mono _ _)
      | (with_reducible exact impl_DoOverlap.mono _ _ _)
      | (with_reducible exact impl_FirstShelf.mono _ _ _)
      | (with_reducible exact impl_NextShelf.mono _ _ _)
      | (with_reducible exact impl_StripBound.mono _ _ _)
      | (with_reducible exact impl_TurnedPieces.mono _ _ _)
      | (with_reducible exact impl_WasteOf.mono _ _ _ _)
      | (with_reducible exact laws_area.mono _ _)
      | (with_reducible exact laws_has.mono _ _ _)
      | (with_reducible exact spec_MakeStrip.mono _ _ _)
      | (with_reducible exact LeO.refl _)
      | (with_reducible exact LeO.none _)
      | (with_reducible refine LeO.ite ?_ ?_)
      | (with_reducible refine LeO.bind ?_ (fun _ => ?_))
      | exact ih0 _ _ _ _ _ _ _ _ _ _ _
      | exact ih1 _ _ _ _ _ _ _ _
      | exact ih2 _ _ _ _ _ _ _ _ _ _
      | exact ih3 _ _ _ _ _ _ _ _
      | exact ih4 _ _ _ _ _ _
      | exact ih5 _ _ _ _ _ _ _
      | exact impl_ByHeight.mono _ _
      | exact impl_DoOverlap.mono _ _ _
      | exact impl_FirstShelf.mono _ _ _
      | exact impl_NextShelf.mono _ _ _
      | exact impl_StripBound.mono _ _ _
      | exact impl_TurnedPieces.mono _ _ _
      | exact impl_WasteOf.mono _ _ _ _
      | exact laws_area.mono _ _
      | exact laws_has.mono _ _ _
      | exact spec_MakeStrip.mono _ _ _
      | exact LeO.none _
      | refine LeO.ite ?_ ?_
      | refine LeO.bind ?_ (fun _ => ?_)
    · intro y0 y1 y2 y3 y4 y5 y6 y7
      unfold laws_FnShelves.l2
      repeat' first
      | (with_reducible exact ih0 _ _ _ _ _ _ _ _ _ _ _)
      | (with_reducible exact ih1 _ _ _ _ _ _ _ _)
      | (with_reducible exact ih2 _ _ _ _ _ _ _ _ _ _)
      | (with_reducible exact ih3 _ _ _ _ _ _ _ _)
      | (with_reducible exact ih4 _ _ _ _ _ _)
      | (with_reducible exact ih5 _ _ _ _ _ _ _)
      | (with_reducible exact impl_ByHeight.mono _ _)
      | (with_reducible exact impl_DoOverlap.mono _ _ _)
      | (with_reducible exact impl_FirstShelf.mono _ _ _)
      | (with_reducible exact impl_NextShelf.mono _ _ _)
      | (with_reducible exact impl_StripBound.mono _ _ _)
      | (with_reducible exact impl_TurnedPieces.mono _ _ _)
      | (with_reducible exact impl_WasteOf.mono _ _ _ _)
      | (with_reducible exact laws_area.mono _ _)
      | (with_reducible exact laws_has.mono _ _ _)
      | (with_reducible exact spec_MakeStrip.mono _ _ _)
      | (with_reducible exact LeO.refl _)
      | (with_reducible exact LeO.none _)
      | (with_reducible refine LeO.ite ?_ ?_)
      | (with_reducible refine LeO.bind ?_ (fun _ => ?_))
      | exact ih0 _ _ _ _ _ _ _ _ _ _ _
      | exact ih1 _ _ _ _ _ _ _ _
      | exact ih2 _ _ _ _ _ _ _ _ _ _
      | exact ih3 _ _ _ _ _ _ _ _
      | exact ih4 _ _ _ _ _ _
      | exact ih5 _ _ _ _ _ _ _
      | exact impl_ByHeight.mono _ _
      | exact impl_DoOverlap.mono _ _ _
      | exact impl_FirstShelf.mono _ _ _
      | exact impl_NextShelf.mono _ _ _
      | exact impl_StripBound.mono _ _ _
      | exact impl_TurnedPieces.mono _ _ _
      | exact impl_WasteOf.mono _ _ _ _
      | exact laws_area.mono _ _
      | exact laws_has.mono _ _ _
      | exact spec_MakeStrip.mono _ _ _
      | exact LeO.none _
      | refine LeO.ite ?_ ?_
      | refine LeO.bind ?_ (fun _ => ?_)
    · intro y0 y1 y2 y3 y4 y5
      unfold laws_FnShelves.j4
      repeat' first
      | (with_reducible exact ih0 _ _ _ _ _ _ _ _ _ _ _)
      | (with_reducible exact ih1 _ _ _ _ _ _ _ _)
      | (with_reducible exact ih2 _ _ _ _ _ _ _ _ _ _)
      | (with_reducible exact ih3 _ _ _ _ _ _ _ _)
      | (with_reducible exact ih4 _ _ _ _ _ _)
      | (with_reducible exact ih5 _ _ _ _ _ _ _)
      | (with_reducible exact impl_ByHeight.mono _ _)
      | (with_reducible exact impl_DoOverlap.mono _ _ _)
      | (with_reducible exact impl_FirstShelf.mono _ _ _)
      | (with_reducible exact impl_NextShelf.mono _ _ _)
      | (with_reducible exact impl_StripBound.mono _ _ _)
      | (with_reducible exact impl_TurnedPieces.mono _ _ _)
      | (with_reducible exact impl_WasteOf.mono _ _ _ _)
      | (with_reducible exact laws_area.mono _ _)
      | (with_reducible exact laws_has.mono _ _ _)
      | (with_reducible exact spec_MakeStrip.mono _ _ _)
      | (with_reducible exact LeO.refl _)
      | (with_reducible exact LeO.none _)
      | (with_reducible refine LeO.ite ?_ ?_)
      | (with_reducible refine LeO.bind ?_ (fun _ => ?_))
      | exact ih0 _ _ _ _ _ _ _ _ _ _ _
      | exact ih1 _ _ _ _ _ _ _ _
      | exact ih2 _ _ _ _ _ _ _ _ _ _
      | exact ih3 _ _ _ _ _ _ _ _
      | exact ih4 _ _ _ _ _ _
      | exact ih5 _ _ _ _ _ _ _
      | exact impl_ByHeight.mono _ _
      | exact impl_DoOverlap.mono _ _ _
      | exact impl_FirstShelf.mono _ _ _
      | exact impl_NextShelf.mono _ _ _
      | exact impl_StripBound.mono _ _ _
      | exact impl_TurnedPieces.mono _ _ _
      | exact impl_WasteOf.mono _ _ _ _
      | exact laws_area.mono _ _
      | exact laws_has.mono _ _ _
      | exact spec_MakeStrip.mono _ _ _
      | exact LeO.none _
      | refine LeO.ite ?_ ?_
      | refine LeO.bind ?_ (fun _ => ?_)
    · intro y0 y1 y2 y3 y4 y5 y6
      unfold laws_FnShelves.l3
      repeat' first
      | (with_reducible exact ih0 _ _ _ _ _ _ _ _ _ _ _)
      | (with_reducible exact ih1 _ _ _ _ _ _ _ _)
      | (with_reducible exact ih2 _ _ _ _ _ _ _ _ _ _)
      | (with_reducible exact ih3 _ _ _ _ _ _ _ _)
      | (with_reducible exact ih4 _ _ _ _ _ _)
      | (with_reducible exact ih5 _ _ _ _ _ _ _)
      | (with_reducible exact impl_ByHeight.mono _ _)
      | (with_reducible exact impl_DoOverlap.mono _ _ _)
      | (with_reducible exact impl_FirstShelf.mono _ _ _)
      | (with_reducible exact impl_NextShelf.mono _ _ _)
      | (with_reducible exact impl_StripBound.mono _ _ _)
      | (with_reducible exact impl_TurnedPieces.mono _ _ _)
      | (with_reducible exact impl_WasteOf.mono _ _ _ _)
      | (with_reducible exact laws_area.mono _ _)
      | (with_reducible exact laws_has.mono _ _ _)
      | (with_reducible exact spec_MakeStrip.mono _ _ _)
      | (with_reducible exact LeO.refl _)
      | (with_reducible exact LeO.none _)
      | (with_reducible refine LeO.ite ?_ ?_)
      | (with_reducible refine LeO.bind ?_ (fun _ => ?_))
      | exact ih0 _ _ _ _ _ _ _ _ _ _ _
      | exact ih1 _ _ _ _ _ _ _ _
      | exact ih2 _ _ _ _ _ _ _ _ _ _
      | exact ih3 _ _ _ _ _ _ _ _
      | exact ih4 _ _ _ _ _ _
      | exact ih5 _ _ _ _ _ _ _
      | exact impl_ByHeight.mono _ _
      | exact impl_DoOverlap.mono _ _ _
      | exact impl_FirstShelf.mono _ _ _
      | exact impl_NextShelf.mono _ _ _
      | exact impl_StripBound.mono _ _ _
      | exact impl_TurnedPieces.mono _ _ _
      | exact impl_WasteOf.mono _ _ _ _
      | exact laws_area.mono _ _
      | exact laws_has.mono _ _ _
      | exact spec_MakeStrip.mono _ _ _
      | exact LeO.none _
      | refine LeO.ite ?_ ?_
      | refine LeO.bind ?_ (fun _ => ?_)
theorem laws_FnShelves.mono : ∀ a0 k, LeO (laws_FnShelves.f k a0) (laws_FnShelves.f (k + 1) a0) := by
  intro a0 k
  obtain ⟨ih0, ih1, ih2, ih3, ih4, ih5⟩ := laws_FnShelves.mono_l k
  unfold laws_FnShelves.f
  repeat' first
      | (with_reducible exact ih0 _ _ _ _ _ _ _ _ _ _ _)
      | (with_reducible exact ih1 _ _ _ _ _ _ _ _)
      | (with_reducible exact ih2 _ _ _ _ _ _ _ _ _ _)
      | (with_reducible exact ih3 _ _ _ _ _ _ _ _)
      | (with_reducible exact ih4 _ _ _ _ _ _)
      | (with_reducible exact ih5 _ _ _ _ _ _ _)
      | (with_reducible exact impl_ByHeight.mono _ _)
      | (with_reducible exact impl_DoOverlap.mono _ _ _)
      | (with_reducible exact impl_FirstShelf.mono _ _ _)
      | (with_reducible exact impl_NextShelf.mono _ _ _)
      | (with_reducible exact impl_StripBound.mono _ _ _)
      | (with_reducible exact impl_TurnedPieces.mono _ _ _)
      | (with_reducible exact impl_WasteOf.mono _ _ _ _)
      | (with_reducible exact laws_area.mono _ _)
      | (with_reducible exact laws_has.mono _ _ _)
      | (with_reducible exact spec_MakeStrip.mono _ _ _)
      | (with_reducible exact LeO.refl _)
      | (with_reducible exact LeO.none _)
      | (with_reducible refine LeO.ite ?_ ?_)
      | (with_reducible refine LeO.bind ?_ (fun _ => ?_))
      | exact ih0 _ _ _ _ _ _ _ _ _ _ _
      | exact ih1 _ _ _ _ _ _ _ _
      | exact ih2 _ _ _ _ _ _ _ _ _ _
      | exact ih3 _ _ _ _ _ _ _ _
      | exact ih4 _ _ _ _ _ _
      | exact ih5 _ _ _ _ _ _ _
      | exact impl_ByHeight.mono _ _
      | exact impl_DoOverlap.mono _ _ _
      | exact impl_FirstShelf.mono _ _ _
      | exact impl_NextShelf.mono _ _ _
      | exact impl_StripBound.mono _ _ _
      | exact impl_TurnedPieces.mono _ _ _
      | exact impl_WasteOf.mono _ _ _ _
      | exact laws_area.mono _ _
      | exact laws_has.mono _ _ _
      | exact spec_MakeStrip.mono _ _ _
      | exact LeO.none _
      | refine LeO.ite ?_ ?_
      | refine LeO.bind ?_ (fun _ => ?_)
def laws_FnShelves.T20 : Bool × List (List Nat × List Nat) := (true, [([], []), ([0], [0]), ([1], [1]), ([2], [2]), ([2], [2]), ([4, 2], [2, 4]), ([3, 5, 2], [2, 3, 5]), ([2, 6], [2, 6]), ([7, 2], [7]), ([8], [8]), ([8], [8]), ([9, 10, 8, 8], [8, 9, 10]), ([8, 11], [8, 11]), ([12, 11], [12]), ([13], [13]), ([14, 13], [13, 14]), ([15, 13, 13], [13, 15]), ([16], [16]), ([16], [16]), ([16], [16]), ([19, 16], [16, 19]), ([18, 20, 16], [16, 18, 20]), ([21, 16], [16, 21]), ([17, 22, 16], [16, 17, 22]), ([23, 16], [16, 23]), ([24, 16], [16, 24]), ([25, 16], [16, 25]), ([16], [16]), ([16], [16]), ([27, 28, 16], [16, 27, 28]), ([29, 16], [16, 29]), ([30, 16], [16, 30]), ([31, 16], [16, 31]), ([26, 32, 16], [16, 26, 32]), ([33, 16, 16], [16, 33]), ([34], [34]), ([34], [34]), ([34], [34]), ([37, 34], [34, 37]), ([36, 38, 34], [34, 36, 38]), ([39, 34], [34, 39]), ([35, 40, 34], [34, 35, 40]), ([41, 34], [34, 41]), ([42, 34], [34, 42]), ([43, 34], [34, 43]), ([34], [34]), ([34], [34]), ([45, 46, 34], [34, 45, 46]), ([47, 34], [34, 47]), ([48, 34], [34, 48]), ([49, 34], [34, 49]), ([44, 50, 34], [34, 44, 50]), ([51, 34, 34], [34, 51]), ([52], [52]), ([52], [52]), ([54, 52], [52, 54]), ([53, 55, 52], [52, 53, 55]), ([56, 52], [52, 56]), ([52], [52]), ([57, 58, 52], [52, 57, 58]), ([52, 59, 34], [34, 52, 59]), ([34, 60, 16], [16, 34, 60]), ([16, 61, 13], [13, 16, 61]), ([13, 62], [13, 62])])
def laws_FnShelves.B20 : List Nat := [0, 1, 3, 7, 7, 23, 63, 127, 255, 511, 511, 2047, 4095, 8191, 16383, 32767, 65535, 131071, 131071, 131071, 655359, 1966079, 4063231, 8388607, 16777215, 33554431, 67108863, 131071, 131071, 402784255, 939655167, 2013396991, 4160880639, 8589934591, 17179869183, 34359738367, 34359738367, 34359738367, 171798691839, 515396075519, 1065151889407, 2199023255551, 4398046511103, 8796093022207, 17592186044415, 34359738367, 34359738367, 105587476004863, 246324964360191, 527799941070847, 1090749894492159, 2251799813685247, 4503599627370495, 9007199254740991, 9007199254740991, 27021597764222975, 72057594037927935, 144115188075855871, 9007199254740991, 576460752303423487, 1152921504606846975, 2305843009213693951, 4611686018427387903, 9223372036854775807]
theorem laws_FnShelves.tab20 : rtab .any (opsOf Try.f4 20) = laws_FnShelves.T20 := by kernel_rfl
theorem laws_FnShelves.bits20 : waitsOk laws_FnShelves.T20.2 laws_FnShelves.B20 = true := by kernel_rfl
def laws_FnShelves.T27 : Bool × List (List Nat × List Nat) := (true, [([], []), ([], []), ([0, 1], [0, 1]), ([2], [2]), ([3], [3]), ([4], [4]), ([5], [5]), ([6], [6]), ([6], [6]), ([7, 8, 6], [6, 7, 8]), ([9, 6], [6, 9]), ([10, 6], [6, 10]), ([11, 6], [6, 11]), ([6, 12], [6, 12]), ([13, 6], [13]), ([14], [14]), ([14], [14]), ([15, 16, 14], [14, 15, 16]), ([17, 14], [14, 17]), ([18, 14], [14, 18]), ([19, 14], [14, 19]), ([14, 20], [14, 20]), ([21, 14], [21]), ([22], [22]), ([22], [22]), ([23, 24, 22], [22, 23, 24]), ([25, 22], [22, 25]), ([26, 22], [22, 26]), ([27, 22], [22, 27]), ([22, 28], [22, 28]), ([29, 22], [29]), ([30], [30]), ([30], [30]), ([31, 32, 30], [30, 31, 32]), ([33, 30], [30, 33]), ([34, 30], [30, 34]), ([30], [30]), ([36, 30], [30, 36]), ([37, 30], [30, 37]), ([35, 38, 30], [30, 35, 38]), ([30], [30]), ([39, 40, 30], [30, 39, 40]), ([30, 41], [30, 41]), ([42, 30], [42]), ([43], [43]), ([43], [43]), ([44, 45, 43], [43, 44, 45]), ([46, 43], [43, 46]), ([47, 43], [43, 47]), ([43], [43]), ([49, 43], [43, 49]), ([50, 43], [43, 50]), ([48, 51, 43], [43, 48, 51]), ([43], [43]), ([52, 53, 43], [43, 52, 53]), ([43, 54], [43, 54]), ([55, 43], [55]), ([56], [56]), ([56], [56]), ([57, 58, 56], [56, 57, 58]), ([59, 56], [56, 59]), ([60, 56], [56, 60]), ([56], [56]), ([62, 56], [56, 62]), ([63, 56], [56, 63]), ([61, 64, 56], [56, 61, 64]), ([56], [56]), ([65, 66, 56], [56, 65, 66]), ([56, 67], [56, 67]), ([68, 56], [68]), ([69], [69]), ([69], [69]), ([70, 71, 69], [69, 70, 71]), ([72, 69], [69, 72]), ([73, 69], [69, 73]), ([69], [69]), ([75, 69], [69, 75]), ([76, 69], [69, 76]), ([74, 77, 69], [69, 74, 77]), ([69], [69]), ([78, 79, 69], [69, 78, 79]), ([69, 80], [69, 80])])
def laws_FnShelves.B27 : List Nat := [0, 0, 3, 7, 15, 31, 63, 127, 127, 511, 1023, 2047, 4095, 8191, 16383, 32767, 32767, 131071, 262143, 524287, 1048575, 2097151, 4194303, 8388607, 8388607, 33554431, 67108863, 134217727, 268435455, 536870911, 1073741823, 2147483647, 2147483647, 8589934591, 17179869183, 34359738367, 2147483647, 70866960383, 208305913855, 549755813887, 2147483647, 2199023255551, 4398046511103, 8796093022207, 17592186044415, 17592186044415, 70368744177663, 140737488355327, 281474976710655, 17592186044415, 580542139465727, 1706442046308351, 4503599627370495, 17592186044415, 18014398509481983, 36028797018963967, 72057594037927935, 144115188075855871, 144115188075855871, 576460752303423487, 1152921504606846975, 2305843009213693951, 144115188075855871, 4755801206503243775, 13979173243358019583, 36893488147419103231, 144115188075855871, 147573952589676412927, 295147905179352825855, 590295810358705651711, 1180591620717411303423, 1180591620717411303423, 4722366482869645213695, 9444732965739290427391, 18889465931478580854783, 1180591620717411303423, 38959523483674573012991, 114517387209588896432127, 302231454903657293676543, 1180591620717411303423, 1208925819614629174706175, 2417851639229258349412351]
theorem laws_FnShelves.tab27 : rtab .any (opsOf Try.f4 27) = laws_FnShelves.T27 := by kernel_rfl
theorem laws_FnShelves.bits27 : waitsOk laws_FnShelves.T27.2 laws_FnShelves.B27 = true := by kernel_rfl
def laws_FnShelves.T36 : Bool × List (List Nat × List Nat) := (true, [([], []), ([0], [0]), ([1], [1]), ([2], [2]), ([3], [3]), ([4, 3], [3, 4]), ([5, 3], [3, 5]), ([3], [3]), ([7, 3], [3, 7]), ([8, 3], [3, 8]), ([6, 9, 3], [3, 6, 9]), ([3], [3]), ([3], [3]), ([11, 12, 3], [3, 11, 12]), ([13, 3], [3, 13]), ([14, 3], [3, 14]), ([15, 3], [3, 15]), ([3], [3]), ([3], [3]), ([17, 18, 3], [3, 17, 18]), ([19, 3], [3, 19]), ([20, 3], [3, 20]), ([21, 3], [3, 21]), ([16, 22, 3], [3, 16, 22]), ([10, 23, 3], [3, 10, 23]), ([3, 24], [3, 24]), ([25, 3], [25]), ([26], [26]), ([27, 26], [26, 27]), ([28, 26], [26, 28]), ([26], [26]), ([30, 26], [26, 30]), ([31, 26], [26, 31]), ([29, 32, 26], [26, 29, 32]), ([33, 26, 26], [26, 33]), ([34], [34]), ([35, 34], [34, 35]), ([36, 34], [34, 36]), ([34], [34]), ([37, 38, 34], [34, 37, 38]), ([34, 39, 26], [26, 34, 39]), ([26, 40], [26, 40])])
def laws_FnShelves.B36 : List Nat := [0, 1, 3, 7, 15, 31, 63, 15, 143, 399, 1023, 15, 15, 6159, 14351, 30735, 63503, 15, 15, 393231, 917519, 1966095, 4063247, 8386575, 16777215, 33554431, 67108863, 134217727, 268435455, 536870911, 134217727, 1207959551, 3355443199, 8589934591, 17179869183, 34359738367, 68719476735, 137438953471, 34359738367, 549755813887, 1099511627775, 2199023255551]
theorem laws_FnShelves.tab36 : rtab .any (opsOf Try.f4 36) = laws_FnShelves.T36 := by kernel_rfl
theorem laws_FnShelves.bits36 : waitsOk laws_FnShelves.T36.2 laws_FnShelves.B36 = true := by kernel_rfl
def laws_FnShelves.T39 : Bool × List (List Nat × List Nat) := (true, [([], []), ([], []), ([], []), ([0, 1, 2], [0, 1, 2]), ([], []), ([], []), ([4, 5], [4, 5]), ([], []), ([7, 3], [7]), ([6, 8], [6, 8]), ([3, 9], [3, 9]), ([10, 8], [10]), ([11], [11]), ([12, 11], [11, 12]), ([13, 11], [11, 13]), ([14, 11, 11], [11, 14]), ([15], [15]), ([16, 15], [15, 16]), ([17, 15], [15, 17]), ([15], [15]), ([19, 15], [15, 19]), ([20, 15], [15, 20]), ([18, 21, 15], [15, 18, 21]), ([15], [15]), ([23, 15], [15, 23]), ([24, 15], [15, 24]), ([15], [15]), ([26, 15], [15, 26]), ([27, 15], [15, 27]), ([25, 28, 15], [15, 25, 28]), ([22, 29, 15, 15], [15, 22, 29]), ([15, 30, 11], [11, 15, 30]), ([11, 31], [11, 31]), ([32, 30, 0, 1, 2, 3, 4, 5, 6, 7, 8, 9, 10, 11, 12, 13, 14, 15, 16, 17, 18, 19, 20, 21, 22, 23, 24, 25, 26, 27, 28, 29, 30, 31, 32], [32])])
def laws_FnShelves.B39 : List Nat := [0, 0, 0, 7, 0, 0, 48, 0, 143, 511, 1023, 2047, 4095, 8191, 16383, 32767, 65535, 131071, 262143, 65535, 589823, 1638399, 4194303, 65535, 8454143, 25231359, 65535, 67174399, 201392127, 528547839, 1073741823, 2147483647, 4294967295, 8589934591]
theorem laws_FnShelves.tab39 : rtab .any (opsOf Try.f4 39) = laws_FnShelves.T39 := by kernel_rfl
theorem laws_FnShelves.bits39 : waitsOk laws_FnShelves.T39.2 laws_FnShelves.B39 = true := by kernel_rfl
theorem laws_FnShelves.j1_dead {k : Nat} {y0 y1 y2 y3 y4 y5 y6 : _} {r : Bool} (hT : Aside0 (r = true)) (h : laws_FnShelves.j1 k y0 y1 y2 y3 y4 y5 y6 true = some r) : False := by
  have hT := hT.out
  subst hT
  cases k with
  | zero => simp [laws_FnShelves.j1] at h
  | succ k => simp [laws_FnShelves.j1] at h
theorem laws_FnShelves.j4_dead {k : Nat} {y0 y1 y2 y3 y4 : _} {r : Bool} (hT : Aside0 (r = true)) (h : laws_FnShelves.j4 k y0 y1 y2 y3 y4 true = some r) : False := by
  have hT := hT.out
  subst hT
  cases k with
  | zero => simp [laws_FnShelves.j4] at h
  | succ k => simp [laws_FnShelves.j4] at h
theorem laws_FnShelves.no_false {r : Bool} (hT : Aside0 (r = true)) (h : some false = some r) : False := by
  have hT := hT.out
  subst hT
  simp at h
section
variable {P : Program} {ops : Array Oper} {Q : Exit → Act → World → Prop} {md : Region.Mode} {S : World → Prop} {ds : List Nat} {T : Bool × List (List Nat × List Nat)}
theorem put_list_ (l : List Value) (d) (N : Nat) (v : Value) : Act.put { tmps := l.toArray, defers := d } (some N) v = { tmps := (l.set N v).toArray, defers := d } := by simp only [Act.put, List.setIfInBounds_toArray]
theorem pz_ (i N : Nat) (l' : Array Bool) {oi : Oper} {v : Value} {fuel : Nat} {l : Array Bool} {a a' : Act} {w : World} (HT : Aside0 (rtab md ops = T)) (hy : ∀ w', (execOp a.eval oi).run P w' = .ok (.value v) w') (ha : a.put (some N) v = a') (h : wpAnyLast P md ops Q S ds fuel l' a' w) (hi : ops[i]? = some oi := by exact rfl) (hN : oi.dst = some N := by exact rfl) (hc : anyT T l.toList l'.toList i = true := by kernel_rfl)
    (hQ : ∀ c t t' d w, Q (.panic c) ⟨t, d⟩ w → Q (.panic c) ⟨t', d⟩ w := by exact fun _ _ _ _ _ h => h) (hw : Region.wanted oi (yielded ops a.tmps) = true := by rfl) : wpAnyLast P md ops Q S ds (fuel + 1) l a w :=
  pure_ (i := i) l' hi hN (any_of HT.out hc) (fun c a w h => by rw [hN] at h; exact hQ c _ a.tmps a.defers w h) (Or.inl ⟨hw, hy⟩) ha h
theorem pu_ (i N : Nat) (l' : Array Bool) {oi : Oper} {fuel : Nat} {l : Array Bool} {a a' : Act} {w : World} (HT : Aside0 (rtab md ops = T)) (ha : a.put (some N) undef = a') (h : wpAnyLast P md ops Q S ds fuel l' a' w) (hi : ops[i]? = some oi := by exact rfl) (hN : oi.dst = some N := by exact rfl) (hc : anyT T l.toList l'.toList i = true := by kernel_rfl)
    (hQ : ∀ c t t' d w, Q (.panic c) ⟨t, d⟩ w → Q (.panic c) ⟨t', d⟩ w := by exact fun _ _ _ _ _ h => h) (hw : Region.wanted oi (yielded ops a.tmps) = false := by rfl) : wpAnyLast P md ops Q S ds (fuel + 1) l a w :=
  pure_ (i := i) (v := undef) l' hi hN (any_of HT.out hc) (fun c a w h => by rw [hN] at h; exact hQ c _ a.tmps a.defers w h) (Or.inr ⟨hw, rfl⟩) ha h
theorem tz_ (i N : Nat) (l' : Array Bool) {B : List Nat} {oi : Oper} {v : Value} {fuel : Nat} {l : Array Bool} {a a' : Act} {w : World} (HT : Aside0 (rtab md ops = T)) (HW : Aside0 (waitsOk T.2 B = true)) (hS : S w) (hi : ops[i]? = some oi) (hy : ∀ w', S w' → (execOp a.eval oi).run P w' = .ok (.value v) w') (ha : a.put (some N) v = a') (h : wpAnyLast P md ops Q S ds fuel l' a' w) (hN : oi.dst = some N := by exact rfl) (hc : takeW T B ds l.toList l'.toList i = true := by kernel_rfl)
    (hQ : ∀ c t t' d w, Q (.panic c) ⟨t, d⟩ w → Q (.panic c) ⟨t', d⟩ w := by exact fun _ _ _ _ _ h => h) (hw : Region.wanted oi (yielded ops a.tmps) = true := by rfl) : wpAnyLast P md ops Q S ds (fuel + 1) l a w :=
  take_ (i := i) l' hi hN (take_ofW HT.out HW.out hc) (fun c a w h => by rw [hN] at h; exact hQ c _ a.tmps a.defers w h) (Or.inl ⟨hw, hy⟩) hS ha h
end
def qC_ (n i : Nat) : Array Bool := ((List.range n).map fun j => decide (j < i)).toArray
section
variable {P : Program} {ops : Array Oper} {Q : Exit → Act → World → Prop} {md : Region.Mode} {S : World → Prop} {ds : List Nat} {T : Bool × List (List Nat × List Nat)}
theorem rz_ {n i N : Nat} {oi : Oper} {v : Value} {fuel : Nat} {a a' : Act} {w : World} (HT : Aside0 (rtab md ops = T)) (hy : ∀ w', (execOp a.eval oi).run P w' = .ok (.value v) w') (ha : a.put (some N) v = a') (h : wpAnyLast P md ops Q S ds fuel (qC_ n (i + 1)) a' w) (hi : ops[i]? = some oi := by exact rfl) (hN : oi.dst = some N := by exact rfl) (hc : anyT T (qC_ n i).toList (qC_ n (i + 1)).toList i = true := by kernel_rfl)
    (hQ : ∀ c t t' d w, Q (.panic c) ⟨t, d⟩ w → Q (.panic c) ⟨t', d⟩ w := by exact fun _ _ _ _ _ h => h) (hw : Region.wanted oi (yielded ops a.tmps) = true := by rfl) : wpAnyLast P md ops Q S ds (fuel + 1) (qC_ n i) a w :=
  pure_ (i := i) (qC_ n (i + 1)) hi hN (any_of HT.out hc) (fun c a w h => by rw [hN] at h; exact hQ c _ a.tmps a.defers w h) (Or.inl ⟨hw, hy⟩) ha h
theorem ru_ {n i N : Nat} {oi : Oper} {fuel : Nat} {a a' : Act} {w : World} (HT : Aside0 (rtab md ops = T)) (ha : a.put (some N) undef = a') (h : wpAnyLast P md ops Q S ds fuel (qC_ n (i + 1)) a' w) (hi : ops[i]? = some oi := by exact rfl) (hN : oi.dst = some N := by exact rfl) (hc : anyT T (qC_ n i).toList (qC_ n (i + 1)).toList i = true := by kernel_rfl)
    (hQ : ∀ c t t' d w, Q (.panic c) ⟨t, d⟩ w → Q (.panic c) ⟨t', d⟩ w := by exact fun _ _ _ _ _ h => h) (hw : Region.wanted oi (yielded ops a.tmps) = false := by rfl) : wpAnyLast P md ops Q S ds (fuel + 1) (qC_ n i) a w :=
  pure_ (i := i) (v := undef) (qC_ n (i + 1)) hi hN (any_of HT.out hc) (fun c a w h => by rw [hN] at h; exact hQ c _ a.tmps a.defers w h) (Or.inr ⟨hw, rfl⟩) ha h
theorem rt_ {n i N : Nat} {B : List Nat} {oi : Oper} {v : Value} {fuel : Nat} {a a' : Act} {w : World} (HT : Aside0 (rtab md ops = T)) (HW : Aside0 (waitsOk T.2 B = true)) (hS : S w) (hy : ∀ w', S w' → (execOp a.eval oi).run P w' = .ok (.value v) w') (ha : a.put (some N) v = a') (h : wpAnyLast P md ops Q S ds fuel (qC_ n (i + 1)) a' w) (hi : ops[i]? = some oi := by exact rfl) (hN : oi.dst = some N := by exact rfl) (hc : takeW T B ds (qC_ n i).toList (qC_ n (i + 1)).toList i = true := by kernel_rfl)
    (hQ : ∀ c t t' d w, Q (.panic c) ⟨t, d⟩ w → Q (.panic c) ⟨t', d⟩ w := by exact fun _ _ _ _ _ h => h) (hw : Region.wanted oi (yielded ops a.tmps) = true := by rfl) : wpAnyLast P md ops Q S ds (fuel + 1) (qC_ n i) a w :=
  take_ (i := i) (qC_ n (i + 1)) hi hN (take_ofW HT.out HW.out hc) (fun c a w h => by rw [hN] at h; exact hQ c _ a.tmps a.defers w h) (Or.inl ⟨hw, hy⟩) hS ha h
end
def qB_ (n m : Nat) : Array Bool := ((List.range n).map fun j => m.testBit j).toArray
end Go.Proofs.Ytadloeklhjoohaa.XFnShelves
