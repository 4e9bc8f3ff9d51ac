/- What functions of the program compute, as plain Lean functions, and that Go's calls come to just that: written by wip/tools/xprint.py for the law FnShelves. -/
import Derived.Test.YtadloeklhjoohaaXFnShelvesx0
import Derived.Test.YtadloeklhjoohaaXFnShelvesx1
import Derived.Test.YtadloeklhjoohaaXFnShelvesx2
namespace Go.Proofs.Ytadloeklhjoohaa.XFnShelves
open Go.RowKit Go.Proofs.YtadloeklhjoohaaW.PrintWords Go.Proofs.YtadloeklhjoohaaW.PrintLast Go.Proofs.YtadloeklhjoohaaW.PrintMore
attribute [local go_sem] max2_int min2_int max_two min_two max_three min_three max_four min_four   -- for this text's walks alone
set_option linter.unusedVariables false
set_option linter.unusedSimpArgs false

/-! ### impl_ByHeight: function 19 -/
set_option maxHeartbeats 2000000 in
set_option maxRecDepth 100000 in
/-- Fewer than twenty: the insertion sort alone. -/
theorem slices_stableCmpFunc_int.calls (cf : Int → Int → Option Int) (k : Nat) (P0_ : Nat → Prop) (u9000_ : Value) (l0 : List Int) (r : List Int) (w0 w : World) (g_ : Nat) (lb_ : Array Value) (eg_ : ∀ args w, (callFunc g_ args).run Try.prog w = .ok (.enter g_ args) w) (HC_ : ∀ (W : World) (a b r_ : Int), Kept w W (fun k_ => P0_ k_) → cf a b = some r_ → Calls Try.prog g_ (#[.int .i64 a, .int .i64 b] ++ lb_) W fun e w' => e = .returned (.int .i64 r_) ∧ ∃ n, w' = W.drewN n) (hB : Below w0.heap.size w0 w) (ho0 : Kd.R (Kd.int .i64) 3 w w0.heap.size P0_ u9000_ l0) (hl : l0.length < 20) (h : slices_insertionSortCmpFunc_int.f cf k l0 0 (l0.length : Int) = some r) :
    Calls Try.prog 76 #[u9000_, .int .i64 (l0.length : Int), .func (.func g_) #[] lb_] w fun e w' => e = .returned (.tuple #[]) ∧ Kd.R (Kd.int .i64) 3 w' w0.heap.size (fun k_ => (P0_ k_ ∨ w.heap.size ≤ k_)) u9000_ r ∧ Below w0.heap.size w0 w' ∧ Kept w w' (fun k_ => P0_ k_) := by
  obtain ⟨A, c, rfl⟩ := Kd.R_slice ho0
  have HCALL := Aside0.mk (slices_insertionSortCmpFunc_int.calls cf k P0_ _ l0 0 (l0.length : Int) r w0 w g_ lb_ eg_ HC_ hB ho0 h)
  obtain ⟨n, hn⟩ : ∃ n_ : Int, (l0.length : Int) = n_ := ⟨_, rfl⟩
  rw [hn] at HCALL ⊢
  have c1b0 : decide ((20 : Int) ≤ n) = false := decide_eq_false (by omega)
  have c2b0 : decide ((20 : Int) < n) = false := decide_eq_false (by omega)
  clear hB ho0 h HC_ eg_
  go_enter Try.func76, Try.ntmps76
  go_wp2
  go_loopg [7, 8] 1 (fun kq v7 v8 w' => v7 = .int .i64 0 ∧ v8 = .int .i64 20 ∧ w' = w)
  case atStart => exact ⟨rfl, rfl, rfl⟩
  case round =>
    obtain ⟨rfl, rfl, rfl⟩ := hrel
    go_wp2_with fail
    refine HCALL.out.mono ?_
    rintro e w1 ⟨rfl, hr⟩
    have HR := Aside0.mk hr
    clear hr HCALL
    go_wp2
    go_loopg [6] 1 (fun kq v6 w' => v6 = .int .i64 20 ∧ w' = w1)
    case atStart => exact ⟨rfl, rfl⟩
    case round =>
      obtain ⟨rfl, rfl⟩ := hrel
      go_wp2
      go_end0
      exact ⟨rfl, HR.out⟩
set_option maxHeartbeats 2000000 in
set_option maxRecDepth 100000 in
theorem slices_SortStableFunc_int_int.calls (cf : Int → Int → Option Int) (k : Nat) (P0_ : Nat → Prop) (u9000_ : Value) (l0 : List Int) (r : List Int) (w0 w : World) (g_ : Nat) (lb_ : Array Value) (eg_ : ∀ args w, (callFunc g_ args).run Try.prog w = .ok (.enter g_ args) w) (HC_ : ∀ (W : World) (a b r_ : Int), Kept w W (fun k_ => P0_ k_) → cf a b = some r_ → Calls Try.prog g_ (#[.int .i64 a, .int .i64 b] ++ lb_) W fun e w' => e = .returned (.int .i64 r_) ∧ ∃ n, w' = W.drewN n) (hB : Below w0.heap.size w0 w) (ho0 : Kd.R (Kd.int .i64) 3 w w0.heap.size P0_ u9000_ l0) (hl : l0.length < 20) (h : slices_insertionSortCmpFunc_int.f cf k l0 0 (l0.length : Int) = some r) :
    Calls Try.prog 54 #[u9000_, .func (.func g_) #[] lb_] w fun e w' => e = .returned (.tuple #[]) ∧ Kd.R (Kd.int .i64) 3 w' w0.heap.size (fun k_ => (P0_ k_ ∨ w.heap.size ≤ k_)) u9000_ r ∧ Below w0.heap.size w0 w' ∧ Kept w w' (fun k_ => P0_ k_) := by
  obtain ⟨A, c, rfl⟩ := Kd.R_slice ho0
  have HCALL := Aside0.mk (slices_stableCmpFunc_int.calls cf k P0_ _ l0 r w0 w g_ lb_ eg_ HC_ hB ho0 hl h)
  clear hB ho0 h HC_ eg_ hl
  go_enter Try.func54, Try.ntmps54
  go_wp2_with fail
  refine HCALL.out.mono ?_
  rintro e w1 ⟨rfl, hr⟩
  have HR := Aside0.mk hr
  clear hr HCALL
  go_wp2
  go_end0
  exact ⟨rfl, HR.out⟩
/-- By how much the second one's height is more. -/
def byHeight.cf (l1 : List (List Int)) (a b : Int) : Option Int := if (0 ≤ a ∧ a < (l1.length : Int)) ∧ (0 ≤ b ∧ b < (l1.length : Int)) ∧ 1 < ((rd_L3 l1 a).length : Int) ∧ 1 < ((rd_L3 l1 b).length : Int) then some (wrap64 (rd (rd_L3 l1 b) 1 - rd (rd_L3 l1 a) 1)) else none
def impl_ByHeight.l0 : Nat → Int → List Int → Int → Option (List Int)
  | 0, _, _, _ => none
  | k + 1, n, x, i => if i < n then (if x.length < 17592186044416 then (impl_ByHeight.l0 k n (x ++ [i]) (wrap64 (i + 1))) else (none)) else (some x)
theorem impl_ByHeight.mono_l : ∀ k, (∀ y0 y1 y2, LeO (impl_ByHeight.l0 k y0 y1 y2) (impl_ByHeight.l0 (k + 1) y0 y1 y2))
  | 0 => fun _ _ _ r h => by simp [impl_ByHeight.l0] at h
  | k + 1 => by
    have ih0 := impl_ByHeight.mono_l k
    intro y0 y1 y2
    unfold impl_ByHeight.l0
    repeat' first
      | (with_reducible exact ih0 _ _ _)
      | (with_reducible exact LeO.refl _)
      | (with_reducible exact LeO.none _)
      | (with_reducible refine LeO.ite ?_ ?_)
def impl_ByHeight.f (k : Nat) (l1 : List (List Int)) : Option (List Int) := (impl_PiecesFit.f 100 l1).bind fun t => if t = true then ((impl_ByHeight.l0 k (l1.length : Int) [] 0).bind fun out => if out.length < 20 then slices_insertionSortCmpFunc_int.f (byHeight.cf l1) k out 0 (out.length : Int) else none) else some []
theorem impl_ByHeight.mono : ∀ a0 k, LeO (impl_ByHeight.f k a0) (impl_ByHeight.f (k + 1) a0) := by
  intro a0 k
  unfold impl_ByHeight.f
  refine LeO.bind (LeO.refl _) (fun _ => LeO.ite (LeO.bind (impl_ByHeight.mono_l k _ _ _) (fun _ => LeO.ite (slices_insertionSortCmpFunc_int.mono _ _ _ _ k) (LeO.refl _))) (LeO.refl _))
set_option maxHeartbeats 2000000 in
set_option maxRecDepth 100000 in
theorem impl_ByHeight.lit (B : Nat) (A1 : Option Addr) (c1 : Nat) (l1 : List (List Int)) (W : World) (a b r : Int) (hbox : W.cell? ⟨B, 0, none⟩ = some (.slice A1 l1.length c1)) (hr : Kd.C (Kd.slice 3 (Kd.int .i64)) W A1 l1.length l1) (h : byHeight.cf l1 a b = some r) :
    Calls Try.prog 55 #[.int .i64 a, .int .i64 b, .pointer (some ⟨B, 0, none⟩)] W fun e w' => e = .returned (.int .i64 r) ∧ ∃ n, w' = W.drewN n := by
  unfold byHeight.cf at h
  by_cases c : (0 ≤ a ∧ a < (l1.length : Int)) ∧ (0 ≤ b ∧ b < (l1.length : Int)) ∧ 1 < ((rd_L3 l1 a).length : Int) ∧ 1 < ((rd_L3 l1 b).length : Int)
  · rw [if_pos c] at h
    obtain ⟨⟨ha0, ha1⟩, ⟨hb0, hb1⟩, hla, hlb⟩ := c
    obtain rfl := Option.some.inj h
    obtain ⟨ad, Aa, ca, e, hxa, _, hra⟩ := at_L3 hr a ha0 ha1
    cases e
    obtain ⟨ad2, Ab, cb, e, hxb, _, hrb⟩ := at_L3 hr b hb0 hb1
    cases e
    obtain ⟨ada, e, hya⟩ := Kd.at_int hra 1 (by omega) hla
    cases e
    obtain ⟨adb, e, hyb⟩ := Kd.at_int hrb 1 (by omega) hlb
    cases e
    rw [show ((1 : Int)).toNat = 1 from rfl] at hya hyb
    have ql : (1 < (rd_L3 l1 a).length) = True := eq_true (by omega)
    have qm : (1 < (rd_L3 l1 b).length) = True := eq_true (by omega)
    replace ha0 := eq_true ha0
    replace ha1 := eq_true ha1
    replace hb0 := eq_true hb0
    replace hb1 := eq_true hb1
    replace hla := eq_true hla
    replace hlb := eq_true hlb
    clear hr hra hrb h
    simp only [Go.Addr.add, Nat.reduceEqDiff, ↓reduceIte] at hya hyb
    go_enter Try.func55, Try.ntmps55
    go_wp2
    go_quiet (fail)
    go_wp2
    go_ret
    exact ⟨rfl, _, rfl⟩
  · rw [if_neg c] at h
    exact absurd h (by simp)
set_option maxHeartbeats 4000000 in
set_option maxRecDepth 100000 in
theorem impl_ByHeight.calls (k : Nat) (A1 : Option Addr) (c1 : Nat) (l1 : List (List Int)) (r : List Int) (w : World) (hr1 : Kd.C (Kd.slice 3 (Kd.int .i64)) w A1 l1.length l1) (hc1 : l1.length ≤ c1) (h : impl_ByHeight.f k l1 = some r) :
    Calls Try.prog 19 #[.slice A1 l1.length c1] w fun e w' => ∃ v0_ : Value, e = .returned (v0_) ∧ Kd.R (Kd.int .i64) 3 w' w.heap.size (fun _ => True) v0_ r ∧ Below w.heap.size w w' := by
  obtain ⟨t, ht, h⟩ := Option.bind_eq_some_iff.mp h
  have HT := Aside0.mk ht
  have HR := Aside0.mk hr1
  have HC := Aside0.mk hc1
  obtain ⟨w1, hw1⟩ : ∃ w1 : World, w.alloc (.cells #[.slice A1 l1.length c1] 23 (0, 0)) = w1 := ⟨_, rfl⟩
  have HB1 := Aside0.mk (show Below w.heap.size w w1 by rw [← hw1]; exact below_alloc (Below.refl _ _) _)
  have HBX := Aside0.mk (show w1.heap[w.heap.size]? = some (.cells #[.slice A1 l1.length c1] 23 (0, 0)) by rw [← hw1]; show (w.heap.push _)[w.heap.size]? = _; simp)
  have HW1 := Aside0.mk hw1
  have hbox := cell_of_one HBX.out
  clear ht hr1 hc1 hw1
  go_enter Try.func19, Try.ntmps19
  go_wp2_with fail
  rw [HW1.out]
  refine (impl_PiecesFit.calls 100 A1 c1 l1 t w1 (Kd.C_below HR.out HB1.out) HC.out HT.out).mono ?_
  rintro e w2 ⟨rfl, hb⟩
  have HB := Aside0.mk hb
  have HBX2 := Aside0.mk ((hb.block _ (lt_of_block HBX.out)).trans HBX.out)
  have hbox2 := cell_of_one HBX2.out
  clear hb hbox
  cases t with
  | false =>
    obtain rfl := Option.some.inj (show some [] = some r from h)
    clear h
    go_wp2
    go_ret
    exact ⟨_, rfl, Kd.R_nil _ _ _ _ _, HB1.out.trans (HB.out.mono HB1.out.size)⟩
  | true =>
    replace h : ((impl_ByHeight.l0 k (l1.length : Int) [] 0).bind fun out => if out.length < 20 then slices_insertionSortCmpFunc_int.f (byHeight.cf l1) k out 0 (out.length : Int) else none) = some r := h
    obtain ⟨out, ho1, h⟩ := Option.bind_eq_some_iff.mp h
    have H' := Aside0.mk ho1
    have HS := Aside0.mk h
    clear ho1 h
    go_wp2_with (first | ((with_reducible refine gate_dst (N := 8) rfl ?_); refine Kd.R_lit (Kd.int .i64) _ 3 ?hg (N := 8) ?hd (xs := ([] : List Int)) (inner := []) (ok := fun _ => True) (okp := fun _ => True) ?hr ?hp (fun _ hk => hk) trivial (Below.refl _ _) (Nat.le_refl _) (by simp) ?_; (case hd => rfl); (case hg => rfl); (case hr => first | (go_simp; done) | (go_simp; rfl)); (case hp => exact (Reps.none _ _)); intro v159 w4 ho5 hb hg_ hnew_; clear hg_ hnew_; have n2_ := Aside0.mk ((hb.block _ (lt_of_block HBX2.out)).trans HBX2.out); have n0_ := Aside0.mk (Kd.R_lower ho5 (below_size (by repeat (first | (with_reducible first | exact HB.out | apply below_alloc | apply pw_below_drewN | apply below_drew1) | exact HB.out)))); have n1_ := Aside0.mk (below_step (by repeat (first | (with_reducible first | exact HB.out | apply below_alloc | apply pw_below_drewN | apply below_drew1) | exact HB.out)) hb); clear HB; have HO160 := n0_; have HB := n1_; have HBX4 := n2_; have hbox4 := cell_of_one n2_.out; clear n0_ n1_ n2_; clear hb ho5))
    go_loopg [3, 11] k (fun kq v3 v11 w' => ∃ (x3 : List Int) (x11 : Int), v11 = .int .i64 x11 ∧ Aside0 (impl_ByHeight.l0 kq (l1.length : Int) x3 x11 = some out) ∧ Aside0 (kq ≤ k) ∧ Aside0 (Kd.R (Kd.int .i64) 3 w' w1.heap.size (fun _ => True) v3 x3) ∧ Aside0 (Below w1.heap.size w1 w'))
    case atStart => exact ⟨[], 0, by first | rfl | (simp; done), H', ⟨Nat.le_refl _⟩, HO160, HB⟩
    case round =>
      clear H' hbox4 hbox2 HBX4 HBX2 HO160 HB
      obtain ⟨x3, x11, rfl, HA, HK1, HO_8, HB⟩ := hrel
      cases gk with
      | zero => exact absurd HA.out (by simp [impl_ByHeight.l0])
      | succ k1 =>
        have H := HA.out
        clear HA
        simp only [impl_ByHeight.l0] at H
        by_cases c6 : x11 < (l1.length : Int)
        · rw [if_pos c6] at H
          have c6b0 : decide (x11 < (l1.length : Int)) = true := decide_eq_true c6
          clear c6
          by_cases c7 : x3.length < 17592186044416
          · rw [if_pos c7] at H
            have LMc7 := Aside0.mk c7
            clear c7
            have H' := Aside0.mk H
            clear H
            go_wp2_with (first | ((with_reducible refine gate_builtin (b := .append) (xs := #[.tmp 14, .tmp 16]) rfl ?_); at_builtin; refine Kd.R_append (Kd.int .i64) (w0 := w1) w1.heap.size rfl (.tmp 14) (.tmp 16) 27 3 (.int .i64 0) 8 rfl Try.underlying27 info3 rfl (by decide) (by omega) u3 x3 x11 [.int .i64 x11] (fun _ => True) (fun _ => False) rfl rfl ?aP (fun _ hk => hk.elim) ?aF ?aO ?aB ?aS ?aL ?_; (case aP => exact rfl); (case aB => exact (by repeat (first | (with_reducible first | exact HB.out | apply below_alloc | apply pw_below_drewN | apply below_drew1) | exact HB.out))); (case aF => exact (fun _ _ => trivial)); (case aO => exact (by (with_reducible repeat (first | apply Kd.R_alloc | apply Kd.R_drewN | apply Kd.R_drew)); exact HO_8.out)); (case aS => exact (below_size (by repeat (first | (with_reducible first | exact HB.out | apply below_alloc | apply pw_below_drewN | apply below_drew1) | exact HB.out)))); (case aL => have := LMc7.out; omega); intro v162 w8 ho hb hg hat; have n0_ := Aside0.mk (hb); have n1_ := Aside0.mk (ho); clear HB; clear HO_8; have HB := n0_; have HO163 := n1_; clear n0_ n1_; clear ho hb hg hat))
            go_roundg k1
            case measure => have := HK1.out; omega
            case rel => exact ⟨x3 ++ [x11], wrap64 (x11 + 1), by first | rfl | (simp; done), H', ⟨by have := HK1.out; omega⟩, HO163, HB⟩
          · rw [if_neg c7] at H
            exact absurd H (by simp)
        · rw [if_neg c6] at H
          have c6b0 : decide (x11 < (l1.length : Int)) = false := decide_eq_false c6
          clear c6
          obtain rfl := Option.some.inj H
          clear H
          obtain ⟨A3, c3, eo3⟩ := Kd.R_slice HO_8.out
          subst eo3
          by_cases hl : x3.length < 20
          · have hs := HS.out
            rw [if_pos hl] at hs
            have HS2 := Aside0.mk hs
            have HL := Aside0.mk hl
            clear hs HS hl
            have HLT := Aside0.mk (lt_of_block HBX.out)
            go_wp2_with fail
            refine (slices_SortStableFunc_int_int.calls (byHeight.cf l1) k (fun k_ => w1.heap.size ≤ k_) _ x3 r w1 wr 55 #[.pointer (some ⟨w.heap.size, 0, none⟩)] (enters_of Try.func55 (by kernel_rfl) rfl) (fun W a b r_ hk hcf => ?_) HB.out (Kd.R_mono (Kd.R_bound HO_8.out) (fun k hk => hk.2.1)) HL.out HS2.out).mono ?_
            · have hlt := HLT.out
              have hsz := HB.out.size
              have hbx : W.heap[w.heap.size]? = some (.cells #[.slice A1 l1.length c1] 23 (0, 0)) := (hk.2 w.heap.size (by omega) (by omega)).trans ((HB.out.block _ hlt).trans HBX.out)
              exact impl_ByHeight.lit w.heap.size A1 c1 l1 W a b r_ (cell_of_one hbx) (Kd.Heap.C (Kd.heap_slice _ (Kd.heap_int _)) (fun j hj => (hk.2 j (by omega) (by omega)).trans ((HB.out.block j (by omega)).trans (HB1.out.block j hj))) HR.out) hcf
            · rintro e w5 ⟨rfl, hr5, hb5, hk5⟩
              have HR5 := Aside0.mk hr5
              have HB5 := Aside0.mk hb5
              clear hr5 hb5 hk5
              go_wp2
              go_ret
              exact ⟨_, rfl, Kd.R_mono (Kd.R_lower HR5.out HB1.out.size) (fun _ _ => trivial), HB1.out.trans (HB5.out.mono HB1.out.size)⟩
          · have hs := HS.out
            rw [if_neg hl] at hs
            exact absurd hs (by simp)

-- NOT PRINTED: function 51 (impl_shelves)

/-! ### impl_NextShelf: function 17 -/
/-! shelves: a row of pointers to blocks of two numbers -/
def rdP (st : List (Int × Int)) (i : Int) : Int × Int := st.getD i.toNat (0, 0)
mutual
def shv.l0 (ff : Int → Option Int) : Nat → Int → List (List Int) → List Int → List S44 → List (Int × Int) → Int → Int → Option (List S44 × Int)
  | 0, _, _, _, _, _, _, _ => none
  | k + 1, wd, ps, od, out, st, ht, i => if i < (od.length : Int) then (if 0 ≤ i then ((ff (st.length : Int)).bind fun m => shv.l1 ff k wd ps od out st ht i (rd od i) (mx 0 m)) else none) else some (out, ht)
def shv.l1 (ff : Int → Option Int) : Nat → Int → List (List Int) → List Int → List S44 → List (Int × Int) → Int → Int → Int → Int → Option (List S44 × Int)
  | 0, _, _, _, _, _, _, _, _, _ => none
  | k + 1, wd, ps, od, out, st, ht, i, p, kk => if (0 ≤ p ∧ p < (ps.length : Int)) ∧ (rd_L3 ps p).length = 2 ∧ 0 ≤ kk ∧ p < (out.length : Int) ∧ st.length < 1000000 then (if kk < (st.length : Int) then (if wrap64 ((rdP st kk).2 + rd (rd_L3 ps p) 0) > wd then shv.l1 ff k wd ps od out st ht i p (wrap64 (kk + 1)) else shv.l0 ff k wd ps od (out.set p.toNat ⟨(rdP st kk).2, (rdP st kk).1⟩) (st.set kk.toNat ((rdP st kk).1, wrap64 ((rdP st kk).2 + rd (rd_L3 ps p) 0))) ht (wrap64 (i + 1))) else (if kk = (st.length : Int) then shv.l0 ff k wd ps od (out.set p.toNat ⟨0, ht⟩) (st ++ [(ht, wrap64 (0 + rd (rd_L3 ps p) 0))]) (wrap64 (ht + rd (rd_L3 ps p) 1)) (wrap64 (i + 1)) else none)) else none
end
theorem shv.mono_l (ff : Int → Option Int) : ∀ k, (∀ y0 y1 y2 y3 y4 y5 y6, LeO (shv.l0 ff k y0 y1 y2 y3 y4 y5 y6) (shv.l0 ff (k + 1) y0 y1 y2 y3 y4 y5 y6)) ∧ (∀ y0 y1 y2 y3 y4 y5 y6 y7 y8, LeO (shv.l1 ff k y0 y1 y2 y3 y4 y5 y6 y7 y8) (shv.l1 ff (k + 1) y0 y1 y2 y3 y4 y5 y6 y7 y8))
  | 0 => ⟨fun _ _ _ _ _ _ _ r h => by simp [shv.l0] at h, fun _ _ _ _ _ _ _ _ _ r h => by simp [shv.l1] at h⟩
  | k + 1 => by
    obtain ⟨ih0, ih1⟩ := shv.mono_l ff k
    refine ⟨?_, ?_⟩
    · intro y0 y1 y2 y3 y4 y5 y6
      unfold shv.l0
      repeat' first
        | (with_reducible exact ih0 _ _ _ _ _ _ _)
        | (with_reducible exact ih1 _ _ _ _ _ _ _ _ _)
        | (with_reducible exact LeO.refl _)
        | (with_reducible exact LeO.none _)
        | (with_reducible refine LeO.ite ?_ ?_)
        | (with_reducible refine LeO.bind ?_ (fun _ => ?_))
    · intro y0 y1 y2 y3 y4 y5 y6 y7 y8
      unfold shv.l1
      repeat' first
        | (with_reducible exact ih0 _ _ _ _ _ _ _)
        | (with_reducible exact ih1 _ _ _ _ _ _ _ _ _)
        | (with_reducible exact LeO.refl _)
        | (with_reducible exact LeO.none _)
        | (with_reducible refine LeO.ite ?_ ?_)
        | (with_reducible refine LeO.bind ?_ (fun _ => ?_))
def shv.f (ff : Int → Option Int) (k : Nat) (wd : Int) (ps : List (List Int)) : Option (List S44 × Int) := (impl_PiecesFit.f wd ps).bind fun t => if t = true then ((if ps.length < 1000000 then some () else none).bind fun _ => (impl_ByHeight.f k ps).bind fun od => shv.l0 ff k wd ps od (List.replicate ps.length z44) [] 0 0) else some ([], -1)
theorem shv.mono (ff : Int → Option Int) (wd : Int) (ps : List (List Int)) (k : Nat) : LeO (shv.f ff k wd ps) (shv.f ff (k + 1) wd ps) := by
  unfold shv.f
  exact LeO.bind (LeO.refl _) (fun _ => LeO.ite (LeO.bind (LeO.refl _) (fun _ => LeO.bind (impl_ByHeight.mono _ k) (fun _ => (shv.mono_l ff k).1 _ _ _ _ _ _ _))) (LeO.refl _))
def kptr : Kd Nat := Kd.scalar (fun b : Nat => Value.pointer (some ⟨b, 0, none⟩)) (fun _ => rfl)
structure Shs (W : World) (base : Nat) (bs : List Nat) (st : List (Int × Int)) : Prop where
  len : bs.length = st.length
  nd : bs.Nodup
  lo : ∀ b ∈ bs, base ≤ b
  cell : ∀ (j : Nat) (h : j < bs.length) (h2 : j < st.length), W.heap[bs[j]]? = some (.cells #[.int .i64 (st[j]).1, .int .i64 (st[j]).2] 84 (0, 0))
theorem Shs.keep {W W' : World} {base : Nat} {bs : List Nat} {st : List (Int × Int)} (h : Shs W base bs st) (hm : ∀ b ∈ bs, b < W.heap.size → (∃ cs, W.heap[b]? = some (.cells cs 84 (0, 0))) → W'.heap[b]? = W.heap[b]?) : Shs W' base bs st :=
  ⟨h.len, h.nd, h.lo, fun j h1 h2 => by
    have := h.cell j h1 h2
    exact (hm _ (List.getElem_mem h1) (Array.getElem?_eq_some_iff.1 this).1 ⟨_, this⟩).trans this⟩
theorem Shs.below {W W' : World} {base : Nat} {bs : List Nat} {st : List (Int × Int)} (h : Shs W base bs st) (hb : Below W.heap.size W W') : Shs W' base bs st := h.keep (fun b _ hlt _ => hb.block b hlt)
theorem Shs.set {W : World} {base : Nat} {bs : List Nat} {st : List (Int × Int)} (h : Shs W base bs st) (j : Nat) (h1 : j < bs.length) (h2 : j < st.length) (u : Int) : Shs (W.setCell ⟨bs[j], 1, none⟩ (.int .i64 u)) base bs (st.set j ((st[j]).1, u)) := by
  refine ⟨by rw [List.length_set]; exact h.len, h.nd, h.lo, fun i h3 h4 => ?_⟩
  rw [List.length_set] at h4
  by_cases e : i = j
  · subst e
    have hc := h.cell i h1 h2
    show (W.heap.modify bs[i] _)[bs[i]]? = _
    rw [Array.getElem?_modify, if_pos rfl, hc]
    simp only [List.getElem_set_self]
    rfl
  · rw [List.getElem_set_ne (fun e2 => e e2.symm)]
    refine (Below.heap_setCell W ⟨bs[j], 1, none⟩ _ bs[i] (fun e2 => ?_)).trans (h.cell i h3 h4)
    exact e ((List.getElem_inj h.nd).mp e2)
theorem Shs.push {W : World} {base : Nat} {bs : List Nat} {st : List (Int × Int)} (h : Shs W base bs st) (x y : Int) (hb : base ≤ W.heap.size) : Shs (W.alloc (.cells #[.int .i64 x, .int .i64 y] 84 (0, 0))) base (bs ++ [W.heap.size]) (st ++ [(x, y)]) := by
  have hlt : ∀ b ∈ bs, b < W.heap.size := fun b hb => by
    obtain ⟨j, hj, rfl⟩ := List.getElem_of_mem hb
    exact (Array.getElem?_eq_some_iff.1 (h.cell j hj (by have := h.len; omega))).1
  refine ⟨by simp [h.len], ?_, fun b hb2 => ?_, fun j h1 h2 => ?_⟩
  · rw [List.nodup_append]
    refine ⟨h.nd, by simp, fun a ha b hb2 => ?_⟩
    rw [List.mem_singleton] at hb2
    subst hb2
    have := hlt a ha
    omega
  · rcases List.mem_append.mp hb2 with h3 | h3
    · exact h.lo b h3
    · rw [List.mem_singleton] at h3
      omega
  · rw [List.length_append] at h1 h2
    have hl := h.len
    by_cases e : j < bs.length
    · rw [List.getElem_append_left e, List.getElem_append_left (by omega)]
      exact (below_alloc (Below.refl _ _) _ |>.block _ (hlt _ (List.getElem_mem e))).trans (h.cell j e (by omega))
    · have e2 : j = bs.length := by simp at h1; omega
      subst e2
      rw [List.getElem_append_right (Nat.le_refl _), List.getElem_append_right (by omega)]
      simp only [hl, Nat.sub_self, List.getElem_cons_zero]
      show (W.heap.push _)[W.heap.size]? = _
      simp
theorem Shs.mem_lt {W : World} {base : Nat} {bs : List Nat} {st : List (Int × Int)} (h : Shs W base bs st) {b : Nat} (hb : b ∈ bs) : b < W.heap.size ∧ ∃ cs, W.heap[b]? = some (.cells cs 84 (0, 0)) := by
  obtain ⟨j, hj, rfl⟩ := List.getElem_of_mem hb
  have := h.cell j hj (by have := h.len; omega)
  exact ⟨(Array.getElem?_eq_some_iff.1 this).1, _, this⟩
structure ShI (w W : World) (vo vl vd : Value) (out : List S44) (bs : List Nat) (st : List (Int × Int)) (od : List Int) : Prop where
  o : Kd.R k44 44 W w.heap.size (fun _ => True) vo out
  l : Kd.R kptr 85 W w.heap.size (fun _ => True) vl bs
  s : Shs W w.heap.size bs st
  d : Kd.R (Kd.int .i64) 3 W w.heap.size (fun _ => True) vd od
  b : Below w.heap.size w W
theorem ShI.below {w W W' : World} {vo vl vd : Value} {out : List S44} {bs : List Nat} {st : List (Int × Int)} {od : List Int} (h : ShI w W vo vl vd out bs st od) (hb : Below W.heap.size W W') : ShI w W' vo vl vd out bs st od :=
  ⟨Kd.R_below h.o hb, Kd.R_below h.l hb, h.s.below hb, Kd.R_below h.d hb, below_step h.b hb⟩
theorem ShI.shelf {w W : World} {vo vl vd : Value} {out : List S44} {bs : List Nat} {st : List (Int × Int)} {od : List Int} (h : ShI w W vo vl vd out bs st od) (j : Nat) (h1 : j < bs.length) (h2 : j < st.length) (u : Int) : ShI w (W.setCell ⟨bs[j], 1, none⟩ (.int .i64 u)) vo vl vd out bs (st.set j ((st[j]).1, u)) od :=
  ⟨Kd.R_set h.o (h.s.cell j h1 h2) (by decide) 1 _, Kd.R_set h.l (h.s.cell j h1 h2) (by decide) 1 _, h.s.set j h1 h2 u, Kd.R_set h.d (h.s.cell j h1 h2) (by decide) 1 _, below_set h.b (h.s.lo _ (List.getElem_mem h1))⟩
theorem typed_ne {W : World} {a b t t' : Nat} {cs cs' : Array Value} (h : W.heap[a]? = some (.cells cs t (0, 0))) (h' : W.heap[b]? = some (.cells cs' t' (0, 0))) (ht : t ≠ t') : a ≠ b := by
  intro e
  subst e
  rw [h] at h'
  injection h' with h'
  injection h' with _ h'
  exact ht h'
theorem ShI.grown {w W W' : World} {vo vl vd v' : Value} {out : List S44} {bs : List Nat} {st : List (Int × Int)} {od : List Int} (h : ShI w W vo vl vd out bs st od) {e' : Nat} (hty : ∀ k, v'.ownBlock = some k → ∃ cells, W.heap[k]? = some (.cells cells e' (0, 0))) (h74 : 84 ≠ e') (hg : W.grownBy W' v'.ownBlock) : Shs W' w.heap.size bs st :=
  h.s.keep (fun b hb hlt ht => hg.block b hlt (fun e => by
    obtain ⟨cs, hcs⟩ := ht
    obtain ⟨cs', hcs'⟩ := hty b e.symm
    exact typed_ne hcs hcs' h74 rfl))
theorem ShI.setout {w W : World} {vl vd : Value} {go n cap : Nat} {out : List S44} {bs : List Nat} {st : List (Int × Int)} {od : List Int} (h : ShI w W (.slice (some ⟨go, 0, none⟩) n cap) vl vd out bs st od) (i : Int) (h0 : 0 ≤ i) (h1 : i < n) (x y : Int) :
    ShI w ((W.setCell ⟨go, i.toNat * 2, none⟩ (.int .i64 x)).setCell ⟨go, i.toNat * 2 + 1, none⟩ (.int .i64 y)) (.slice (some ⟨go, 0, none⟩) n cap) vl vd (out.set i.toNat ⟨x, y⟩) bs st od := by
  obtain ⟨ce, hcl, hM, hcc, hfr⟩ := Kd.R_elem h.o z44 i h0 h1
  obtain rfl := k44_openM hM
  have hs := Kd.R_seg h.o i h0 h1 (seg := [.int .i64 x, .int .i64 y]) (j := 0) hcl hcc (show 2 ≤ 2 from by decide) (x' := (⟨x, y⟩ : S44)) (k44_mkM _ _ _ (⟨x, y⟩ : S44)) (fun _ hk => hk)
  have hg : W.grownBy ((W.setCell ⟨go, i.toNat * 2, none⟩ (.int .i64 x)).setCell ⟨go, i.toNat * 2 + 1, none⟩ (.int .i64 y)) (Value.slice (some ⟨go, 0, none⟩) n cap).ownBlock := hs.2
  refine ⟨hs.1, Kd.R_over' h.l (Kd.R_typed h.o) (by decide) hg, h.grown (Kd.R_typed h.o) (by decide) hg, Kd.R_over' h.d (Kd.R_typed h.o) (by decide) hg, ?_⟩
  have hb := Kd.R_base h.o go rfl
  exact below_set (below_set h.b hb) hb
theorem Shs.at_ {W : World} {base : Nat} {bs : List Nat} {st : List (Int × Int)} (h : Shs W base bs st) (i : Int) (h0 : 0 ≤ i) (h1 : i < (st.length : Int)) : ∃ b, bs[i.toNat]? = some b ∧ rdOf 0 bs i = b ∧ W.cell? ⟨b, 0, none⟩ = some (.int .i64 (rdP st i).1) ∧ W.cell? ⟨b, 1, none⟩ = some (.int .i64 (rdP st i).2) ∧ W.frozen? ⟨b, 0, none⟩ = false ∧ W.frozen? ⟨b, 1, none⟩ = false := by
  have hl := h.len
  have h2 : i.toNat < bs.length := by omega
  have h3 : i.toNat < st.length := by omega
  have hc := h.cell i.toNat h2 h3
  have e : rdP st i = st[i.toNat] := by simp [rdP, List.getD_eq_getElem?_getD, h3]
  rw [e]
  refine ⟨bs[i.toNat], List.getElem?_eq_getElem h2, by simp [rdOf, List.getD_eq_getElem?_getD, h2], ?_, ?_, ?_, ?_⟩
  · simp [World.cell?, hc]
  · simp [World.cell?, hc]
  · simp [World.frozen?, hc]
  · simp [World.frozen?, hc]
theorem Shs.setAt {w W : World} {vo vl vd : Value} {out : List S44} {bs : List Nat} {st : List (Int × Int)} {od : List Int} (h : ShI w W vo vl vd out bs st od) (i : Int) (h0 : 0 ≤ i) (h1 : i < (st.length : Int)) {b : Nat} (hb : bs[i.toNat]? = some b) (u : Int) : ShI w (W.setCell ⟨b, 1, none⟩ (.int .i64 u)) vo vl vd out bs (st.set i.toNat ((rdP st i).1, u)) od := by
  have hl := h.s.len
  have h2 : i.toNat < bs.length := by omega
  have h3 : i.toNat < st.length := by omega
  have e : rdP st i = st[i.toNat] := by simp [rdP, List.getD_eq_getElem?_getD, h3]
  rw [List.getElem?_eq_getElem h2] at hb
  obtain rfl := Option.some.inj hb
  rw [e]
  exact h.shelf i.toNat h2 h3 u
theorem infoShelfPtr : (Try.prog.info? 85).map (fun i => (i.zero, i.size, i.bytes)) = some (some (.pointer none), 1, 8) := by kernel_rfl
theorem ShI.push {w W W2 : World} {vo vl vd v1 : Value} {out : List S44} {bs : List Nat} {st : List (Int × Int)} {od : List Int} (h : ShI w W vo vl vd out bs st od) (x y : Int) (hr : Kd.R kptr 85 W2 w.heap.size (fun _ => True) v1 (bs ++ [W.heap.size])) (hb2 : Below w.heap.size w W2) (hg : (W.alloc (.cells #[.int .i64 x, .int .i64 y] 84 (0, 0))).grownBy W2 vl.ownBlock) : ShI w W2 vo v1 vd out (bs ++ [W.heap.size]) (st ++ [(x, y)]) od := by
  have hba : Below W.heap.size W (W.alloc (.cells #[.int .i64 x, .int .i64 y] 84 (0, 0))) := below_alloc (Below.refl _ _) _
  have h1 := h.below hba
  have hty := Kd.R_typed h1.l
  have hsz := h.b.size
  exact ⟨Kd.R_over' h1.o hty (by decide) hg, hr, (h.s.push x y hsz).keep (fun b hb hlt ht => hg.block b hlt (fun e => by
    obtain ⟨cs, hcs⟩ := ht
    obtain ⟨cs', hcs'⟩ := hty b e.symm
    exact typed_ne hcs hcs' (by decide) rfl)), Kd.R_over' h1.d hty (by decide) hg, hb2⟩
theorem flat_types {α : Type} {d : Kd α} {e base : Nat} {ok S : Nat → Prop} {W W2 : World} {v : Value} {xs : List α} {es : List Nat} (hk : Kept W W2 S) (h : d.R e W base ok v xs) (hE : d.E = []) (hS : ∀ k, S k → ∃ q, q ∈ es ∧ ∃ cells, W.heap[k]? = some (.cells cells q (0, 0))) (hne : e ∉ es) : d.R e W2 base ok v xs := by
  refine Kd.R_mono (Kd.R_kept (Kd.R_tight hE h) hk (fun k h1 h2 => ?_)) (fun k h1 => h.1 k h1.symm)
  obtain ⟨q, hq, cs, hcs⟩ := hS k h2
  obtain ⟨cs', hcs'⟩ := Kd.R_typed h k h1.symm
  have he := hcs'.symm.trans hcs
  injection he with he
  injection he with _ he
  subst he
  exact hne hq
set_option maxHeartbeats 8000000 in
set_option maxRecDepth 100000 in
theorem shv.calls (ff : Int → Option Int) (k : Nat) (a0 : Int) (A1 : Option Addr) (c1 : Nat) (l1 : List (List Int)) (r1 : List S44) (r2 : Int) (w : World) (g_ : Nat) (lb_ : Array Value) (eg_ : ∀ args w, (callFunc g_ args).run Try.prog w = .ok (.enter g_ args) w) (HC_ : ∀ (W : World) (m r_ : Int), ff m = some r_ → Calls Try.prog g_ (#[.int .i64 m] ++ lb_) W fun e w' => e = .returned (.int .i64 r_) ∧ ∃ n, w' = W.drewN n) (hr1 : Kd.C (Kd.slice 3 (Kd.int .i64)) w A1 l1.length l1) (hc1 : l1.length ≤ c1) (h : shv.f ff k a0 l1 = some (r1, r2)) :
    Calls Try.prog 51 #[.int .i64 a0, .slice A1 l1.length c1, .func (.func g_) #[] lb_] w fun e w' => ∃ v0_ : Value, e = .returned (.tuple #[v0_, .int .i64 r2]) ∧ Kd.R k44 44 w' w.heap.size (fun _ => True) v0_ r1 ∧ Below w.heap.size w w' := by
  have HCF := Aside0.mk HC_
  have HR := Aside0.mk hr1
  have HC := Aside0.mk hc1
  obtain ⟨t, ht, h⟩ := Option.bind_eq_some_iff.mp h
  have HT := Aside0.mk ht
  clear HC_ hr1 hc1 ht
  go_enter Try.func51, Try.ntmps51
  go_wp2_with fail
  refine (impl_PiecesFit.calls a0 A1 c1 l1 t w HR.out HC.out HT.out).mono ?_
  rintro e w2 ⟨rfl, hb⟩
  have HB := Aside0.mk hb
  clear hb
  cases t with
  | false =>
    obtain ⟨rfl, rfl⟩ := Prod.mk.inj (Option.some.inj (show some ([], -1) = some (r1, r2) from h))
    clear h
    go_wp2
    go_ret2
    exact ⟨_, rfl, Kd.R_nil _ _ _ _ _, HB.out⟩
  | true =>
    replace h : ((if l1.length < 1000000 then some () else none).bind fun _ => (impl_ByHeight.f k l1).bind fun od => shv.l0 ff k a0 l1 od (List.replicate l1.length z44) [] 0 0) = some (r1, r2) := h
    obtain ⟨u, hu, h⟩ := Option.bind_eq_some_iff.mp h
    have hlen : l1.length < 1000000 := by
      by_cases c : l1.length < 1000000
      · exact c
      · rw [if_neg c] at hu
        exact absurd hu (by simp)
    obtain ⟨od, hod, h⟩ := Option.bind_eq_some_iff.mp h
    have HOD := Aside0.mk hod
    have H' := Aside0.mk h
    have HLN := Aside0.mk hlen
    clear hu hod h hlen u
    have c4b0 : (0 ≤ (l1.length : Int)) = True := eq_true (by omega)
    have c4b1 : decide (0 ≤ (l1.length : Int)) = true := decide_eq_true (by omega)
    have c5b0 : (((l1.length : Int) : Int).toNat ≤ 35184372088832) = True := eq_true (by have := HLN.out; omega)
    obtain ⟨y1, hy1⟩ : ∃ y_ : List S44, y_ = List.replicate ((l1.length : Int) : Int).toNat z44 := ⟨_, rfl⟩
    have Ny1 := Aside0.mk hy1
    clear hy1
    go_wp2_with (first
      | ((with_reducible refine gate_dst (N := 20) rfl ?_); refine Kd.R_make k44 _ 44 rfl (N := 20) rfl 36 _ _ rfl (l1.length : Int) rfl rfl Try.underlying36 (.agg #[(.int .i64 0), (.int .i64 0)]) 16 info44 rfl (by decide) (by omega) z44 (ok := fun _ => True) (okp := fun _ => True) (w0 := w2) (k44_mkM _ _ _ z44) (fun _ hk => hk) trivial (by omega) (by have := HLN.out; omega) (Below.refl _ _) (Nat.le_refl _) ?_; intro v142 w6 ho7 hb hg_ hnew_; clear hg_ hnew_; rw [← Ny1.out] at ho7; have HO := Aside0.mk (Kd.R_lower ho7 (below_size HB.out)); have n1_ := Aside0.mk (below_step HB.out hb); clear HB; have HB := n1_; clear n1_ hb ho7)
      | ((with_reducible refine gate_dst (N := 21) rfl ?_); refine Kd.R_lit kptr _ 85 ?hg (N := 21) ?hd (xs := ([] : List Nat)) (inner := []) (ok := fun _ => True) (okp := fun _ => True) ?hr ?hp (fun _ hk => hk) trivial (Below.refl _ _) (Nat.le_refl _) (by simp) ?_; (case hd => rfl); (case hg => rfl); (case hr => first | (go_simp; done) | (go_simp; rfl)); (case hp => exact (Reps.none _ _)); intro v145 w8 ho9 hb hg_ hnew_; clear hg_ hnew_; have n0_ := Aside0.mk (Kd.R_below HO.out hb); have HL := Aside0.mk (Kd.R_lower ho9 (below_size HB.out)); have n1_ := Aside0.mk (below_step HB.out hb); clear HB HO; have HO := n0_; have HB := n1_; clear n0_ n1_ hb ho9))
    go_wp2_with fail
    refine (impl_ByHeight.calls k A1 c1 l1 od w8 (Kd.C_below HR.out HB.out) HC.out HOD.out).mono ?_
    rintro e w9 ⟨v9, rfl, hr9, hb9⟩
    obtain ⟨A9, c9, e9⟩ := Kd.R_slice hr9
    subst e9
    have HI := Aside0.mk (show ShI w w9 v142 v145 (.slice A9 od.length c9) y1 [] [] od from ⟨Kd.R_mono (Kd.R_below HO.out hb9) (fun _ _ => trivial), Kd.R_mono (Kd.R_below HL.out hb9) (fun _ _ => trivial), ⟨rfl, List.nodup_nil, by simp, fun j h1 => by simp at h1⟩, Kd.R_mono (Kd.R_lower hr9 (below_size HB.out)) (fun _ _ => trivial), below_step HB.out hb9⟩)
    have HYL := Aside0.mk (show y1.length = l1.length by rw [Ny1.out]; simp)
    obtain ⟨Ao, co, eo⟩ := Kd.R_slice HO.out
    subst eo
    rw [HYL.out] at HI ⊢
    have H2 := Aside0.mk (show shv.l0 ff k a0 l1 od y1 [] 0 0 = some (r1, r2) by have := H'.out; rw [Ny1.out, Int.toNat_natCast]; exact this)
    clear hr9 hb9 HO HL HB H'
    go_wp2
    go_loopg [9, 10, 25] k (fun kq v9 v10 v25 w' => ∃ (out : List S44) (bs : List Nat) (st : List (Int × Int)) (ht i : Int), v10 = .int .i64 ht ∧ v25 = .int .i64 i ∧ Aside0 (shv.l0 ff kq a0 l1 od out st ht i = some (r1, r2)) ∧ Aside0 (kq ≤ k) ∧ Aside0 (out.length = l1.length) ∧ Aside0 (ShI w w' (.slice Ao l1.length co) v9 (.slice A9 od.length c9) out bs st od))
    case atStart => exact ⟨y1, [], [], 0, 0, rfl, rfl, H2, ⟨Nat.le_refl _⟩, HYL, HI⟩
    case round =>
      clear H2 HI HYL
      obtain ⟨out, bs, st, ht, i, rfl, rfl, HA, HK1, HYL, HI⟩ := hrel
      cases gk with
      | zero => exact absurd HA.out (by simp [shv.l0])
      | succ k1 =>
        have H := HA.out
        clear HA
        simp only [shv.l0] at H
        by_cases c1 : i < (od.length : Int)
        · rw [if_pos c1] at H
          have c1b0 : decide (i < (od.length : Int)) = true := decide_eq_true c1
          by_cases c2 : 0 ≤ i
          · rw [if_pos c2] at H
            obtain ⟨m, hm, H⟩ := Option.bind_eq_some_iff.mp H
            have HM := Aside0.mk hm
            have H' := Aside0.mk H
            clear H hm
            obtain ⟨Al, cl, el⟩ := Kd.R_slice HI.out.l
            subst el
            obtain ⟨ad, ed, hx⟩ := Kd.at_int (Kd.R_reads' HI.out.d).2.2 i c2 c1
            cases ed
            have HSL := Aside0.mk HI.out.s.len
            replace c1 := eq_true c1
            replace c2 := eq_true c2
            rw [HSL.out] at HI ⊢
            go_wp2_with fail
            refine (HCF.out _ _ _ HM.out).mono ?_
            rintro e w3 ⟨rfl, n3, rfl⟩
            have HI3 := Aside0.mk (HI.out.below (pw_below_drewN (Below.refl _ _) n3))
            clear HI
            generalize wr.drewN n3 = w3 at HI3 ⊢
            obtain ⟨z, hz⟩ : ∃ z_, mx 0 m = z_ := ⟨_, rfl⟩
            have HZ := Aside0.mk hz
            rw [hz] at H'
            clear hz
            go_wp2
            all_goals
              go_loopg [13] k1 (fun kq v13 w' => ∃ (kk : Int), v13 = .int .i64 kk ∧ Aside0 (shv.l1 ff kq a0 l1 od out st ht i (rd od i) kk = some (r1, r2)) ∧ Aside0 (kq ≤ k1) ∧ Aside0 (ShI w w' (.slice Ao l1.length co) (.slice Al st.length cl) (.slice (some ad) od.length c9) out bs st od))
              case atStart => exact ⟨_, rfl, by (have e := HZ.out; unfold mx at e; first | (rw [if_pos (by omega)] at e; subst e; exact H') | (rw [if_neg (by omega)] at e; subst e; exact H')), ⟨Nat.le_refl _⟩, HI3⟩
              case round =>
                clear H' HI3 hx
                obtain ⟨kk, rfl, HA, HK2, HI⟩ := hrel
                cases gk with
                | zero => exact absurd HA.out (by simp [shv.l1])
                | succ k2 =>
                  have H := HA.out
                  clear HA
                  simp only [shv.l1] at H
                  obtain ⟨p, hp⟩ : ∃ p_, rd od i = p_ := ⟨_, rfl⟩
                  rw [hp] at H ⊢
                  have HPE := Aside0.mk hp
                  clear hp
                  by_cases c3 : (0 ≤ p ∧ p < (l1.length : Int)) ∧ (rd_L3 l1 p).length = 2 ∧ 0 ≤ kk ∧ p < (out.length : Int) ∧ st.length < 1000000
                  · rw [if_pos c3] at H
                    obtain ⟨⟨p0, p1⟩, p2, p3, p4, p5⟩ := c3
                    have HC5 := Aside0.mk p5
                    have HC4 := Aside0.mk p4
                    obtain ⟨ad1, A5, c5, e5, hx5, _, hr5⟩ := at_L3 (Kd.C_below HR.out HI.out.b) p p0 p1
                    cases e5
                    rw [p2] at hx5 hr5
                    obtain ⟨ad2, e6, hx6⟩ := Kd.at_int hr5 0 (by omega) (by omega)
                    cases e6
                    obtain ⟨ad3, e7, hx7⟩ := Kd.at_int hr5 1 (by omega) (by omega)
                    cases e7
                    obtain ⟨q0, hq0⟩ : ∃ q_, rd (rd_L3 l1 p) 0 = q_ := ⟨_, rfl⟩
                    obtain ⟨q1, hq1⟩ : ∃ q_, rd (rd_L3 l1 p) 1 = q_ := ⟨_, rfl⟩
                    rw [hq0] at H hx6
                    rw [hq1] at H hx7
                    (try rw [show ((0 : Int)).toNat = 0 from rfl] at hx6)
                    (try rw [Addr.add_zero'] at hx6)
                    (try simp only [show (1 : Int).toNat = 1 from rfl, Nat.reduceMul, Nat.reduceEqDiff, Go.Addr.add, ↓reduceIte] at hx7)
                    have P0 := eq_true p0
                    have P1 := eq_true p1
                    have P3 := eq_true p3
                    by_cases c6 : kk < (st.length : Int)
                    · rw [if_pos c6] at H
                      have c6b0 : decide (kk < (st.length : Int)) = true := decide_eq_true c6
                      obtain ⟨b, hb, hrb, hx8, hx9, hf8, hf9⟩ := HI.out.s.at_ kk p3 c6
                      obtain ⟨gl, cl2, el, hgl, _, _, _⟩ := Kd.R_form HI.out.l (by have := HSL.out; omega)
                      injection el with ea_ en_ ec_
                      subst ea_
                      subst ec_
                      clear en_
                      obtain ⟨hx10, _⟩ := Kd.R_celln 0 HI.out.l kk p3 c6
                      rw [hrb] at hx10
                      replace hx10 : wr.cell? ⟨gl, kk.toNat, none⟩ = some (.pointer (some ⟨b, 0, none⟩)) := hx10
                      obtain ⟨x0, hx0⟩ : ∃ x_, (rdP st kk).1 = x_ := ⟨_, rfl⟩
                      obtain ⟨u0, hu0⟩ : ∃ x_, (rdP st kk).2 = x_ := ⟨_, rfl⟩
                      rw [hx0] at H hx8
                      rw [hu0] at H hx9
                      have HBB := Aside0.mk hb
                      have HX0 := Aside0.mk hx0
                      have HU0 := Aside0.mk hu0
                      have HC6 := Aside0.mk (And.intro p3 c6)
                      have HP2 := Aside0.mk p2
                      have HQ0 := Aside0.mk hq0
                      have HQ1 := Aside0.mk hq1
                      have HC7 := Aside0.mk (And.intro p0 p1)
                      replace c6 := eq_true c6
                      clear p0 p1 p2 p3 p4 p5 hr5 hq0 hq1 hb hrb hx0 hu0
                      by_cases c7 : wrap64 (u0 + q0) > a0
                      · rw [if_pos c7] at H
                        have c7b0 : decide (wrap64 (u0 + q0) > a0) = true := decide_eq_true c7
                        have H' := Aside0.mk H
                        clear H c7
                        go_wp2
                        go_quiet (fail)
                        go_wp2
                        obtain rfl := HPE.out
                        go_roundg k2
                        case measure => have := HK2.out; omega
                        case rel => exact ⟨wrap64 (kk + 1), by first | rfl | (simp; done), H', ⟨by have := HK2.out; omega⟩, ⟨HI.out.below (pw_below_drewN (Below.refl _ _) _)⟩⟩
                      · rw [if_neg c7] at H
                        have c7b0 : decide (wrap64 (u0 + q0) > a0) = false := decide_eq_false c7
                        have H' := Aside0.mk H
                        have c8b0 : (kk == (st.length : Int)) = false := beq_eq_false_iff_ne.mpr (by have := HC6.out.2; omega)
                        clear H c7
                        go_wp2
                        go_quiet (fail)
                        go_wp2
                        have HI4 := Aside0.mk (HI.out.below (pw_below_drewN (Below.refl _ _) nq))
                        replace hx5 : (wr.drewN nq).cell? _ = _ := hx5
                        replace hx6 : (wr.drewN nq).cell? _ = _ := hx6
                        replace hx7 : (wr.drewN nq).cell? _ = _ := hx7
                        replace hx8 : (wr.drewN nq).cell? _ = _ := hx8
                        replace hx9 : (wr.drewN nq).cell? _ = _ := hx9
                        replace hx10 : (wr.drewN nq).cell? _ = _ := hx10
                        replace hf8 : (wr.drewN nq).frozen? _ = _ := hf8
                        replace hf9 : (wr.drewN nq).frozen? _ = _ := hf9
                        clear HI
                        generalize wr.drewN nq = wq at hx5 hx6 hx7 hx8 hx9 hx10 hf8 hf9 HI4 ⊢
                        obtain ⟨go, co2, eo, hgo, _, _, _⟩ := Kd.R_form HI4.out.o (by have := HC4.out; have := HC7.out; omega)
                        injection eo with ea_ en_ ec_
                        subst ea_
                        clear en_ ec_
                        obtain ⟨ce, hcl, hM, hcc, hfr⟩ := Kd.R_elem HI4.out.o z44 p HC7.out.1 HC7.out.2
                        obtain rfl := k44_openM hM
                        have hx11 : wq.cell? ⟨go, p.toNat * 2, none⟩ = some (.int .i64 ((rd_T44 out p).f0)) := hcc 0 _ rfl
                        have hx12 : wq.cell? ⟨go, p.toNat * 2 + 1, none⟩ = some (.int .i64 ((rd_T44 out p).f1)) := hcc 1 _ rfl
                        have hf11 : wq.frozen? ⟨go, p.toNat * 2, none⟩ = false := hfr 0
                        have hf12 : wq.frozen? ⟨go, p.toNat * 2 + 1, none⟩ = false := hfr 1
                        clear hcl hM hcc hfr
                        have HS5 := Aside0.mk (HI4.out.setout p HC7.out.1 HC7.out.2 u0 x0)
                        go_big_region
                        go_wp2
                        have HI5 := Aside0.mk (HS5.out.below (below_drew (Below.refl _ _)))
                        clear hx11 hx12 hf11 hf12 hx5 hx6 hx7 hx8 hx9 hx10 hf8 hf9 HS5 HI4
                        generalize ((wq.setCell ⟨go, p.toNat * 2, none⟩ (.int .i64 u0)).setCell ⟨go, p.toNat * 2 + 1, none⟩ (.int .i64 x0)).drew = wz at HI5 ⊢
                        obtain ⟨b5, hb5, hrb5, hx8, hx9, hf8, hf9⟩ := HI5.out.s.at_ kk HC6.out.1 HC6.out.2
                        obtain ⟨hx10, _⟩ := Kd.R_celln 0 HI5.out.l kk HC6.out.1 HC6.out.2
                        rw [hrb5] at hx10
                        replace hx10 : wz.cell? ⟨gl, kk.toNat, none⟩ = some (.pointer (some ⟨b5, 0, none⟩)) := hx10
                        rw [HX0.out] at hx8
                        rw [HU0.out] at hx9
                        obtain ⟨ad4, A6, c6', e5, hx5, hl6, hr5⟩ := at_L3 (Kd.C_below HR.out HI5.out.b) p HC7.out.1 HC7.out.2
                        cases e5
                        rw [HP2.out] at hx5 hr5
                        obtain ⟨ad5, e6, hx6⟩ := Kd.at_int hr5 0 (by omega) (by omega)
                        cases e6
                        rw [HQ0.out] at hx6
                        (try rw [show ((0 : Int)).toNat = 0 from rfl] at hx6)
                        (try rw [Addr.add_zero'] at hx6)
                        have HS6 := Aside0.mk (Shs.setAt HI5.out kk HC6.out.1 HC6.out.2 hb5 (wrap64 (u0 + q0)))
                        clear hr5 hl6 hb5 hrb5
                        go_big_region
                        go_wp2
                        obtain rfl := HPE.out
                        go_roundg k2
                        case measure => have := HK1.out; have := HK2.out; omega
                        case rel => exact ⟨out.set (rd od i).toNat ⟨u0, x0⟩, bs, st.set kk.toNat (x0, wrap64 (u0 + q0)), ht, wrap64 (i + 1), by first | rfl | (simp; done), by first | rfl | (simp; done), H', ⟨by have := HK1.out; have := HK2.out; omega⟩, ⟨by rw [List.length_set]; exact HYL.out⟩, ⟨by have h6 := HS6.out; rw [HX0.out] at h6; exact h6.below (below_drew (Below.refl _ _))⟩⟩
                    · rw [if_neg c6] at H
                      by_cases c8 : kk = (st.length : Int)
                      · rw [if_pos c8] at H
                        subst c8
                        have H' := Aside0.mk H
                        have HC7 := Aside0.mk (And.intro p0 p1)
                        have HP2 := Aside0.mk p2
                        have HQ0 := Aside0.mk hq0
                        have HQ1 := Aside0.mk hq1
                        have c6b0 : decide ((st.length : Int) < (st.length : Int)) = false := decide_eq_false c6
                        clear H c6 p0 p1 p2 p3 p4 p5 hr5 hq0 hq1 hx5 hx6 hx7
                        go_wp2
                        go_quiet (fail)
                        have HI4 := Aside0.mk (HI.out.below (pw_below_drewN (Below.refl _ _) nq))
                        clear HI
                        generalize wr.drewN nq = wq at HI4 ⊢
                        obtain ⟨W1, hW1⟩ : ∃ W1, wq.alloc (.cells #[.int .i64 ht, .int .i64 0] 84 (0, 0)) = W1 := ⟨_, rfl⟩
                        have HW1 := Aside0.mk hW1
                        have HLW := Aside0.mk (show Kd.R kptr 85 W1 w.heap.size (fun _ => True) (.slice Al st.length cl) bs by rw [← hW1]; exact Kd.R_alloc HI4.out.l _)
                        have HBW := Aside0.mk (show Below w.heap.size w W1 by rw [← hW1]; exact below_alloc HI4.out.b _)
                        clear hW1
                        go_wp2_with (first
                          | ((with_reducible refine gate_dst (N := 66) rfl ?_); rw [HW1.out])
                          | ((with_reducible refine gate_builtin (b := .append) (xs := #[.tmp 62, .tmp 66]) rfl ?_); at_builtin; refine Kd.R_append kptr (w0 := w) w.heap.size rfl (.tmp 62) (.tmp 66) 82 85 (.pointer none) 8 rfl Try.underlying82 infoShelfPtr rfl (by decide) (by omega) (.slice Al st.length cl) bs wq.heap.size [.pointer (some ⟨wq.heap.size, 0, none⟩)] (fun _ => True) (fun _ => False) rfl rfl ?aP (fun _ hk => hk.elim) ?aF ?aO ?aB ?aS ?aL ?_; (case aP => exact rfl); (case aB => exact HBW.out); (case aF => exact (fun _ _ => trivial)); (case aO => exact HLW.out); (case aS => exact below_size HBW.out); (case aL => have := HC5.out; have := HSL.out; omega); intro v1 w8 ho hb hg hat; have HI5 := Aside0.mk (ShI.push HI4.out ht 0 ho hb (by rw [HW1.out]; exact hg)); clear ho hb hg hat HI4 HLW HBW; obtain ⟨ad4, A6, c6', e5, hx5, hl6, hr5⟩ := at_L3 (Kd.C_below HR.out HI5.out.b) p HC7.out.1 HC7.out.2; cases e5; rw [HP2.out] at hx5 hr5; obtain ⟨ad5, e6, hx7⟩ := Kd.at_int hr5 1 (by omega) (by omega); cases e6; rw [HQ1.out] at hx7; (try simp only [show (1 : Int).toNat = 1 from rfl, Nat.reduceMul, Nat.reduceEqDiff, Go.Addr.add, ↓reduceIte] at hx7))
                          | go_in)
                        obtain ⟨b, hb, hrb, hx8, hx9, hf8, hf9⟩ := HI5.out.s.at_ (st.length : Int) (by omega) (by rw [List.length_append, List.length_singleton]; omega)
                        have hrd : rdP (st ++ [(ht, 0)]) (st.length : Int) = (ht, 0) := by simp [rdP]
                        rw [hrd] at hx8 hx9
                        obtain ⟨gl, cl2, el, hgl, _, _, _⟩ := Kd.R_form HI5.out.l (by simp)
                        subst el
                        obtain ⟨hx10, _⟩ := Kd.R_celln 0 HI5.out.l (st.length : Int) (by omega) (by have := HSL.out; simp; omega)
                        rw [hrb, Int.toNat_natCast] at hx10
                        replace hx10 : w8.cell? ⟨gl, st.length, none⟩ = some (.pointer (some ⟨b, 0, none⟩)) := hx10
                        obtain ⟨z0, hz0⟩ : ∃ z_ : Int, z_ = 0 := ⟨_, rfl⟩
                        have HZ0 := Aside0.mk hz0
                        rw [show ((ht, 0) : Int × Int).2 = z0 from hz0.symm] at hx9
                        rw [show ((ht, 0) : Int × Int).1 = ht from rfl] at hx8
                        obtain ⟨N, hN⟩ : ∃ N_, (bs ++ [wq.heap.size]).length = N_ := ⟨_, rfl⟩
                        rw [hN] at HI5 ⊢
                        have Q3 : ((st.length : Int) < (N : Int)) = True := eq_true (by have := HSL.out; simp at hN; omega)
                        have HQ3 := Aside0.mk (show (st.length : Int) < (N : Int) by have := HSL.out; simp at hN; omega)
                        have P4 : (0 ≤ (st.length : Int)) = True := eq_true (by omega)
                        obtain ⟨go, co2, eo, hgo, _, _, _⟩ := Kd.R_form HI5.out.o (by have := HC4.out; have := HC7.out; omega)
                        injection eo with ea_ en_ ec_
                        subst ea_
                        clear en_ ec_ hz0 hN hrd
                        obtain ⟨ce, hcl, hM, hcc, hfr⟩ := Kd.R_elem HI5.out.o z44 p HC7.out.1 HC7.out.2
                        obtain rfl := k44_openM hM
                        have hx11 : w8.cell? ⟨go, p.toNat * 2, none⟩ = some (.int .i64 ((rd_T44 out p).f0)) := hcc 0 _ rfl
                        have hx12 : w8.cell? ⟨go, p.toNat * 2 + 1, none⟩ = some (.int .i64 ((rd_T44 out p).f1)) := hcc 1 _ rfl
                        have hf11 : w8.frozen? ⟨go, p.toNat * 2, none⟩ = false := hfr 0
                        have hf12 : w8.frozen? ⟨go, p.toNat * 2 + 1, none⟩ = false := hfr 1
                        clear hcl hM hcc hfr
                        have HS5 := Aside0.mk (HI5.out.setout p HC7.out.1 HC7.out.2 z0 ht)
                        go_big_region
                        go_wp2
                        have HI6 := Aside0.mk (HS5.out.below (below_drew (Below.refl _ _)))
                        clear hx11 hx12 hf11 hf12 hx5 hx7 hx8 hx9 hx10 hf8 hf9 HS5 HI5
                        generalize ((w8.setCell ⟨go, p.toNat * 2, none⟩ (.int .i64 z0)).setCell ⟨go, p.toNat * 2 + 1, none⟩ (.int .i64 ht)).drew = wz at HI6 ⊢
                        obtain ⟨b5, hb5, hrb5, hx8, hx9, hf8, hf9⟩ := HI6.out.s.at_ (st.length : Int) (by omega) (by rw [List.length_append, List.length_singleton]; omega)
                        have hrd : rdP (st ++ [(ht, 0)]) (st.length : Int) = (ht, 0) := by simp [rdP]
                        rw [hrd] at hx8 hx9
                        rw [show ((ht, 0) : Int × Int).2 = z0 from HZ0.out.symm] at hx9
                        obtain ⟨hx10, _⟩ := Kd.R_celln 0 HI6.out.l (st.length : Int) (by omega) HQ3.out
                        rw [hrb5, Int.toNat_natCast] at hx10
                        replace hx10 : wz.cell? ⟨gl, st.length, none⟩ = some (.pointer (some ⟨b5, 0, none⟩)) := hx10
                        obtain ⟨ad6, A7, c7', e7, hx5, hl7, hr7⟩ := at_L3 (Kd.C_below HR.out HI6.out.b) p HC7.out.1 HC7.out.2
                        cases e7
                        rw [HP2.out] at hx5 hr7
                        obtain ⟨ad7, e8, hx6⟩ := Kd.at_int hr7 0 (by omega) (by omega)
                        cases e8
                        rw [HQ0.out] at hx6
                        (try rw [show ((0 : Int)).toNat = 0 from rfl] at hx6)
                        (try rw [Addr.add_zero'] at hx6)
                        have HS6 := Aside0.mk (Shs.setAt HI6.out (st.length : Int) (by omega) (by rw [List.length_append, List.length_singleton]; omega) hb5 (wrap64 (z0 + q0)))
                        clear hr7 hl7 hb5 hrb5 hrd
                        go_big_region
                        go_wp2
                        obtain rfl := HPE.out
                        go_roundg k2
                        case measure => have := HK1.out; have := HK2.out; omega
                        case rel => exact ⟨out.set (rd od i).toNat ⟨z0, ht⟩, bs ++ [wq.heap.size], st ++ [(ht, wrap64 (z0 + q0))], wrap64 (ht + q1), wrap64 (i + 1), by first | rfl | (simp; done), by first | rfl | (simp; done), ⟨by have h6 := H'.out; rw [HZ0.out]; exact h6⟩, ⟨by have := HK1.out; have := HK2.out; omega⟩, ⟨by rw [List.length_set]; exact HYL.out⟩, ⟨by have h6 := HS6.out; rw [show rdP (st ++ [(ht, 0)]) (st.length : Int) = (ht, 0) by simp [rdP], Int.toNat_natCast, List.set_append_right _ _ (Nat.le_refl _), Nat.sub_self] at h6; exact h6.below (below_drew (Below.refl _ _))⟩⟩
                      · rw [if_neg c8] at H
                        exact absurd H (by simp)
                  · rw [if_neg c3] at H
                    exact absurd H (by simp)
          · rw [if_neg c2] at H
            exact absurd H (by simp)
        · rw [if_neg c1] at H
          have c1b0 : decide (i < (od.length : Int)) = false := decide_eq_false c1
          clear c1
          obtain ⟨rfl, rfl⟩ := Prod.mk.inj (Option.some.inj H)
          clear H
          go_wp2
          go_ret2
          exact ⟨_, rfl, HI.out.o, HI.out.b⟩
def next.ff (m : Int) : Option Int := some (wrap64 (m - 1))
def impl_NextShelf.f (k : Nat) (a0 : Int) (l1 : List (List Int)) : Option (List S44 × Int) := shv.f next.ff k a0 l1
theorem impl_NextShelf.mono : ∀ a0 a1 k, LeO (impl_NextShelf.f k a0 a1) (impl_NextShelf.f (k + 1) a0 a1) := fun a0 a1 k => shv.mono _ a0 a1 k
set_option maxRecDepth 100000 in
theorem next.lit (W : World) (m r : Int) (h : next.ff m = some r) : Calls Try.prog 52 (#[.int .i64 m] ++ #[]) W fun e w' => e = .returned (.int .i64 r) ∧ ∃ n, w' = W.drewN n := by
  obtain rfl := Option.some.inj h
  clear h
  show Calls Try.prog 52 #[.int .i64 m] W _
  go_enter Try.func52, Try.ntmps52
  go_wp2
  go_ret
  exact ⟨rfl, 0, rfl⟩
set_option maxRecDepth 100000 in
theorem impl_NextShelf.calls (k : Nat) (a0 : Int) (A1 : Option Addr) (c1 : Nat) (l1 : List (List Int)) (r1 : List S44) (r2 : Int) (w : World) (hr1 : Kd.C (Kd.slice 3 (Kd.int .i64)) w A1 l1.length l1) (hc1 : l1.length ≤ c1) (h : impl_NextShelf.f k a0 l1 = some (r1, r2)) :
    Calls Try.prog 17 #[.int .i64 a0, .slice A1 l1.length c1] w fun e w' => ∃ v0_ : Value, e = .returned (.tuple #[v0_, .int .i64 r2]) ∧ Kd.R k44 44 w' w.heap.size (fun _ => True) v0_ r1 ∧ Below w.heap.size w w' := by
  have HC := Aside0.mk (shv.calls next.ff k a0 A1 c1 l1 r1 r2 w 52 #[] (enters_of Try.func52 (by kernel_rfl) rfl) next.lit hr1 hc1 h)
  clear hr1 hc1 h
  go_enter Try.func17, Try.ntmps17
  go_wp2_with fail
  refine HC.out.mono ?_
  rintro e w1 ⟨v, rfl, hr, hb⟩
  have HR := Aside0.mk hr
  have HB := Aside0.mk hb
  clear hr hb HC
  go_wp2
  go_ret2
  exact ⟨_, rfl, HR.out, HB.out⟩

/-! ### impl_FirstShelf: function 18 -/
def first.ff (m : Int) : Option Int := some 0
def impl_FirstShelf.f (k : Nat) (a0 : Int) (l1 : List (List Int)) : Option (List S44 × Int) := shv.f first.ff k a0 l1
theorem impl_FirstShelf.mono : ∀ a0 a1 k, LeO (impl_FirstShelf.f k a0 a1) (impl_FirstShelf.f (k + 1) a0 a1) := fun a0 a1 k => shv.mono _ a0 a1 k
set_option maxRecDepth 100000 in
theorem first.lit (W : World) (m r : Int) (h : first.ff m = some r) : Calls Try.prog 53 (#[.int .i64 m] ++ #[]) W fun e w' => e = .returned (.int .i64 r) ∧ ∃ n, w' = W.drewN n := by
  obtain rfl := Option.some.inj h
  clear h
  show Calls Try.prog 53 #[.int .i64 m] W _
  go_enter Try.func53, Try.ntmps53
  go_wp2
  go_ret
  exact ⟨rfl, 0, rfl⟩
set_option maxRecDepth 100000 in
theorem impl_FirstShelf.calls (k : Nat) (a0 : Int) (A1 : Option Addr) (c1 : Nat) (l1 : List (List Int)) (r1 : List S44) (r2 : Int) (w : World) (hr1 : Kd.C (Kd.slice 3 (Kd.int .i64)) w A1 l1.length l1) (hc1 : l1.length ≤ c1) (h : impl_FirstShelf.f k a0 l1 = some (r1, r2)) :
    Calls Try.prog 18 #[.int .i64 a0, .slice A1 l1.length c1] w fun e w' => ∃ v0_ : Value, e = .returned (.tuple #[v0_, .int .i64 r2]) ∧ Kd.R k44 44 w' w.heap.size (fun _ => True) v0_ r1 ∧ Below w.heap.size w w' := by
  have HC := Aside0.mk (shv.calls first.ff k a0 A1 c1 l1 r1 r2 w 53 #[] (enters_of Try.func53 (by kernel_rfl) rfl) first.lit hr1 hc1 h)
  clear hr1 hc1 h
  go_enter Try.func18, Try.ntmps18
  go_wp2_with fail
  refine HC.out.mono ?_
  rintro e w1 ⟨v, rfl, hr, hb⟩
  have HR := Aside0.mk hr
  have HB := Aside0.mk hb
  clear hr hb HC
  go_wp2
  go_ret2
  exact ⟨_, rfl, HR.out, HB.out⟩

/-! ### impl_areaOf: function 56 -/
def impl_areaOf.l0 : Nat → Int → List (List Int) → Int → Int → Option (Int)
  | 0, _, _, _, _ => none
  | k + 1, x3, x6, x7, x8 => if x8 < x7 then (if 0 ≤ x8 then (if x8 < (x6.length : Int) then (if 0 < ((rd_L3 x6 x8).length : Int) then (if 1 < ((rd_L3 x6 x8).length : Int) then (impl_areaOf.l0 k (wrap64 (x3 + (wrap64 ((rd (rd_L3 x6 x8) 0) * (rd (rd_L3 x6 x8) 1))))) x6 x7 (wrap64 (x8 + 1))) else (none)) else (none)) else (none)) else (none)) else (some x3)
def impl_areaOf.f (k : Nat) (l0 : List (List Int)) : Option (Int) := impl_areaOf.l0 k 0 l0 (l0.length : Int) 0
theorem impl_areaOf.mono_l : ∀ k, (∀ y0 y1 y2 y3, LeO (impl_areaOf.l0 k y0 y1 y2 y3) (impl_areaOf.l0 (k + 1) y0 y1 y2 y3))
  | 0 => fun _ _ _ _ r h => by simp [impl_areaOf.l0] at h
  | k + 1 => by
    have ih0 := impl_areaOf.mono_l k
    · intro y0 y1 y2 y3
      unfold impl_areaOf.l0
      repeat' first
      | (with_reducible exact ih0 _ _ _ _)
      | (with_reducible exact LeO.refl _)
      | (with_reducible exact LeO.none _)
      | (with_reducible refine LeO.ite ?_ ?_)
      | (with_reducible refine LeO.bind ?_ (fun _ => ?_))
      | exact ih0 _ _ _ _
      | exact LeO.none _
      | refine LeO.ite ?_ ?_
      | refine LeO.bind ?_ (fun _ => ?_)
theorem impl_areaOf.mono : ∀ a0 k, LeO (impl_areaOf.f k a0) (impl_areaOf.f (k + 1) a0) := by
  intro a0 k
  have ih0 := impl_areaOf.mono_l k
  unfold impl_areaOf.f
  repeat' first
      | (with_reducible exact ih0 _ _ _ _)
      | (with_reducible exact LeO.refl _)
      | (with_reducible exact LeO.none _)
      | (with_reducible refine LeO.ite ?_ ?_)
      | (with_reducible refine LeO.bind ?_ (fun _ => ?_))
      | exact ih0 _ _ _ _
      | exact LeO.none _
      | refine LeO.ite ?_ ?_
      | refine LeO.bind ?_ (fun _ => ?_)
set_option maxHeartbeats 8000000 in
set_option maxRecDepth 100000 in
theorem impl_areaOf.calls (k : Nat) (A0 : Option Addr) (c0 : Nat) (l0 : List (List Int)) (r : Int) (w : World) (hr0 : Kd.C (Kd.slice 3 (Kd.int .i64)) w A0 l0.length l0) (hc0 : l0.length ≤ c0) (h : impl_areaOf.f k l0 = some r) :
    Calls Try.prog 56 #[.slice A0 l0.length c0] w fun e w' => e = .returned (.int .i64 r) ∧ Drawn0 w w' := by
  have HR0 := Aside0.mk hr0
  have HC0 := Aside0.mk hc0
  clear hr0 hc0
  have H : (impl_areaOf.l0 k 0 l0 (l0.length : Int) 0) = some r := h
  clear h
  have H' := Aside0.mk H
  clear H
  go_enter Try.func56, Try.ntmps56
  go_wp2
  repeat (go_quiet (fail); try go_wp2)
  go_loopg [3, 8] k (fun kq v3 v8 w' => ∃ (x3_1 : Int) (x8_1 : Int), v3 = .int .i64 x3_1 ∧ v8 = .int .i64 x8_1 ∧ Aside0 (impl_areaOf.l0 kq x3_1 l0 (l0.length : Int) x8_1 = some r) ∧ Aside0 (kq ≤ k) ∧ Drawn0 w w')
  case atStart => exact ⟨(0), (0), (by first | rfl | (simp; done) | (simp [*]; done)), (by first | rfl | (simp; done) | (simp [*]; done)), H', ⟨Nat.le_refl _⟩, by repeat (first | exact Drawn0.refl _ | apply Drawn0.step)⟩
  case round =>
    clear H'
    obtain ⟨x3_1, x8_1, rfl, rfl, HA, HK1, ⟨m1, rfl⟩⟩ := hrel
    cases gk with
    | zero => exact absurd HA.out (by simp [impl_areaOf.l0])
    | succ k1 =>
      have H := HA.out
      clear HA
      simp only [impl_areaOf.l0] at H
      by_cases c2 : x8_1 < (l0.length : Int)
      · rw [if_pos c2] at H
        have c2b0 : decide (x8_1 < (l0.length : Int)) = true := decide_eq_true c2
        clear c2
        by_cases c3 : 0 ≤ x8_1
        · rw [if_pos c3] at H
          have c3b0 : decide (0 ≤ x8_1) = true := decide_eq_true c3
          clear c3
          by_cases c4 : x8_1 < (l0.length : Int)
          · rw [if_pos c4] at H
            have c4b0 : decide (x8_1 < (l0.length : Int)) = true := decide_eq_true c4
            clear c4
            by_cases c5 : 0 < ((rd_L3 l0 x8_1).length : Int)
            · rw [if_pos c5] at H
              have c5b0 : decide (0 < ((rd_L3 l0 x8_1).length : Int)) = true := decide_eq_true c5
              have c5b1 : decide (0 < (rd_L3 l0 x8_1).length) = true := decide_eq_true (by omega)
              clear c5
              by_cases c6 : 1 < ((rd_L3 l0 x8_1).length : Int)
              · rw [if_pos c6] at H
                have c6b0 : decide (1 < ((rd_L3 l0 x8_1).length : Int)) = true := decide_eq_true c6
                have c6b1 : decide (1 < (rd_L3 l0 x8_1).length) = true := decide_eq_true (by omega)
                clear c6
                have H' := Aside0.mk H
                clear H
                have p164 : 0 ≤ (x8_1 : Int) := of_decide_eq_true (by first | (with_reducible assumption) | assumption)
                have q164 : x8_1 < (l0.length : Int) := of_decide_eq_true (by first | (with_reducible assumption) | assumption)
                obtain ⟨ad164, A164_0, c164_0, e164, hx164_0, hl164_0, hi164_0⟩ := at_L3 HR0.out x8_1 p164 q164
                cases e164
                have HR164_0 := Aside0.mk hi164_0
                have HC164_0 := Aside0.mk hl164_0
                clear hi164_0 hl164_0
                replace p164 := eq_true p164
                replace q164 := eq_true q164
                have p165 : 0 ≤ (0 : Int) := (by omega)
                have q165 : 0 < ((rd_L3 l0 x8_1).length : Int) := of_decide_eq_true (by first | (with_reducible assumption) | assumption)
                obtain ⟨ad165, e165, hx165_0⟩ := Kd.at_int HR164_0.out 0 p165 q165
                cases e165
                have qi165 : (0 < (rd_L3 l0 x8_1).length) = True := eq_true (by omega)
                (try rw [show ((0 : Int)).toNat = 0 from rfl] at hx165_0)
                (try rw [Addr.add_zero'] at hx165_0)
                replace p165 := eq_true p165
                replace q165 := eq_true q165
                have p166 : 0 ≤ (1 : Int) := (by omega)
                have q166 : 1 < ((rd_L3 l0 x8_1).length : Int) := of_decide_eq_true (by first | (with_reducible assumption) | assumption)
                obtain ⟨ad166, e166, hx166_0⟩ := Kd.at_int HR164_0.out 1 p166 q166
                obtain rfl : ad165 = ad166 := (by injection e166)
                (try simp only [show (1 : Int).toNat = 1 from rfl, Nat.reduceMul, Nat.reduceEqDiff, Go.Addr.add, ↓reduceIte] at hx166_0)
                have qi166 : (1 < (rd_L3 l0 x8_1).length) = True := eq_true (by omega)
                (try rw [show ((1 : Int)).toNat = 1 from rfl] at hx166_0)
                replace p166 := eq_true p166
                replace q166 := eq_true q166
                go_wp2
                repeat (go_quiet (fail); try go_wp2)
                go_roundg k1
                case measure => have := HK1.out; omega
                case rel => exact ⟨(wrap64 (x3_1 + (wrap64 ((rd (rd_L3 l0 x8_1) 0) * (rd (rd_L3 l0 x8_1) 1))))), (wrap64 (x8_1 + 1)), (by first | rfl | (simp; done) | (simp [*]; done)), (by first | rfl | (simp; done) | (simp [*]; done)), H', ⟨by have := HK1.out; omega⟩, by repeat (first | exact Drawn0.refl _ | apply Drawn0.step)⟩
              · rw [if_neg c6] at H
                exact absurd H (by simp)
            · rw [if_neg c5] at H
              exact absurd H (by simp)
          · rw [if_neg c4] at H
            exact absurd H (by simp)
        · rw [if_neg c3] at H
          exact absurd H (by simp)
      · rw [if_neg c2] at H
        have c2b0 : decide (x8_1 < (l0.length : Int)) = false := decide_eq_false c2
        clear c2
        obtain rfl := Option.some.inj H
        go_wp2
        repeat (go_quiet (fail); try go_wp2)
        go_ret
        exact ⟨by first | rfl | (simp; done) | (simp [*]; done), by repeat (first | exact Drawn0.refl _ | apply Drawn0.step)⟩

end Go.Proofs.Ytadloeklhjoohaa.XFnShelves
