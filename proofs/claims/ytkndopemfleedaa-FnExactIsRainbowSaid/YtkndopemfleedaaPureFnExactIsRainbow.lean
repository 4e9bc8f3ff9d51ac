/- IsRainbow: three colors, sorted, are 0, 1, 2 exactly if none is -1 and no two are equal. -/
import Derived.Test.YtkndopemfleedaaXFnExactIsRainbowx5
namespace Go.Proofs.Ytkndopemfleedaa.Pure
open Go.RowKit Go.Proofs.Ytkndopemfleedaa.XFnExactIsRainbow Go.Proofs.YtkndopemfleedaaW.PrintWords Go.Proofs.YtkndopemfleedaaW.PrintLast
set_option linter.unusedVariables false
set_option linter.unusedSimpArgs false
theorem wf64 {x : Int} (h : (Lit.int .i64 x).wf = true) : -9223372036854775808 ≤ x ∧ x ≤ 9223372036854775807 := by
  simp only [Lit.wf, IntKind.min, IntKind.max, IntKind.signed, IntKind.bits, Bool.and_eq_true, decide_eq_true_eq, if_true] at h
  omega
theorem w64 {x : Int} (h0 : -9223372036854775808 ≤ x) (h1 : x ≤ 9223372036854775807) : wrap64 x = x := by
  unfold wrap64
  omega
theorem succ_of {d k : Nat} (h : d < k) : ∃ m, k = m + 1 := ⟨k - 1, by omega⟩
theorem rd_nat (l : List Int) (i : Nat) : rd l (i : Int) = l.getD i 0 := by simp [rd]
theorem rd_get (l : List Int) (i : Nat) (h : i < l.length) : rd l (i : Int) = l[i] := by simp [rd, List.getD_eq_getElem?_getD, h]
theorem w1 {i : Nat} (h : i ≤ 140737488355328) : wrap64 ((i : Int) + 1) = ((i + 1 : Nat) : Int) := by
  unfold wrap64
  omega
theorem lt_t {i n : Nat} (h : i < n) : ((i : Int) < (n : Int)) = True := eq_true (by omega)
theorem lt_f {i n : Nat} (h : n ≤ i) : ((i : Int) < (n : Int)) = False := eq_false (by omega)
theorem nn_t (i : Nat) : (0 ≤ (i : Int)) = True := eq_true (by omega)
theorem w64n (n : Nat) (h : n ≤ 9223372036854775807) : wrap64 (n : Int) = (n : Int) := w64 (by omega) (by omega)
theorem w64sub (a b c : Nat) (ha : a ≤ 9223372036854775807) (h : a = b + c) : wrap64 ((a : Int) - (b : Int)) = (c : Int) := by
  rw [w64 (by omega) (by omega)]
  omega

theorem half_of {x : Int} (h : Int.tmod x 2 = 0) : 2 * Int.tdiv x 2 = x := by
  have := Int.mul_tdiv_add_tmod x 2
  omega
theorem halv_l (k : Nat) : ∀ (x n : Int), x ≠ 0 → x.natAbs < 2 ^ k → -9223372036854775808 ≤ x → x ≤ 9223372036854775807 → ∃ r, spec_HalvingsOf.l0 k x n = some r ∧ impl_HalvingsOf.l0 k x n = some r := by
  induction k with
  | zero => intro x n h0 h1; simp at h1; omega
  | succ k ih =>
    intro x n h0 h1 h2 h3
    simp only [spec_HalvingsOf.l0, impl_HalvingsOf.l0]
    by_cases e : Int.tmod x 2 = 0
    · have hx := half_of e
      rw [if_pos e, if_pos e]
      have hw : wrap64 (Int.tdiv x 2) = Int.tdiv x 2 := by unfold wrap64; omega
      rw [hw]
      refine ih _ _ (by omega) ?_ (by omega) (by omega)
      rw [Nat.pow_succ] at h1
      omega
    · rw [if_neg e, if_neg e]
      exact ⟨n, rfl, rfl⟩
theorem halv_f (x : Int) (h2 : -9223372036854775808 ≤ x) (h3 : x ≤ 9223372036854775807) (k : Nat) (hk : 64 ≤ k) : ∃ r, spec_HalvingsOf.f k x = some r ∧ impl_HalvingsOf.f k x = some r := by
  unfold spec_HalvingsOf.f impl_HalvingsOf.f
  by_cases h0 : x = 0
  · rw [if_pos h0, if_pos h0]; exact ⟨100, rfl, rfl⟩
  · rw [if_neg h0, if_neg h0]
    refine halv_l k x 0 h0 ?_ h2 h3
    have : 2 ^ 64 ≤ 2 ^ k := Nat.pow_le_pow_right (by omega) hk
    have h64 : x.natAbs < 2 ^ 64 := by omega
    exact Nat.lt_of_lt_of_le h64 this

theorem within_f (a b c : Int) : impl_within.f a b c = some (decide (b ≤ a ∧ a ≤ c)) := by
  unfold impl_within.f
  by_cases h : a ≥ b
  · rw [if_pos h]; simp [show b ≤ a from h]
  · rw [if_neg h]; simp [show ¬ b ≤ a from h]
theorem l01In_f (a b c : Int) : spec_l01In.f a b c = some (decide (b ≤ a ∧ a ≤ c)) := by
  unfold spec_l01In.f
  by_cases h : a ≥ b
  · rw [if_pos h]; simp [show b ≤ a from h]
  · rw [if_neg h]; simp [show ¬ b ≤ a from h]

theorem more_of {α : Type} {f : Nat → Option α} (h : ∀ k, LeO (f k) (f (k + 1))) {k : Nat} {r : α} (hr : f k = some r) (K : Nat) (hK : k ≤ K) : f K = some r := by
  obtain ⟨m, rfl⟩ := Nat.exists_eq_add_of_le hK
  clear hK
  induction m with
  | zero => exact hr
  | succ m ih => exact h (k + m) _ ih

theorem color_f (d x y : Int) (hd : -9223372036854775808 ≤ d ∧ d ≤ 9223372036854775807) (hx : -9223372036854775808 ≤ x ∧ x ≤ 9223372036854775807) (hy : -9223372036854775808 ≤ y ∧ y ≤ 9223372036854775807) :
    ∃ r, spec_ColorOf.f 66 d x y = some r ∧ impl_ColorOf.f 66 d x y = some r ∧ (-1 ≤ r ∧ r ≤ 2) := by
  unfold spec_ColorOf.f impl_ColorOf.f
  simp only [l01In_f, within_f, Option.bind_some, impl_PointOk.f]
  by_cases h1 : 1 ≤ d ∧ d ≤ 40
  · by_cases h2 : (0 ≤ x ∧ x ≤ d) ∧ (0 ≤ y ∧ y ≤ d)
    · obtain ⟨u, u1, u2⟩ := halv_f x hx.1 hx.2 66 (by omega)
      obtain ⟨v, v1, v2⟩ := halv_f y hy.1 hy.2 66 (by omega)
      obtain ⟨s, s1, s2⟩ := halv_f d hd.1 hd.2 66 (by omega)
      obtain ⟨u', u1', u2'⟩ := halv_f x hx.1 hx.2 65 (by omega)
      obtain ⟨v', v1', v2'⟩ := halv_f y hy.1 hy.2 65 (by omega)
      obtain ⟨s', s1', s2'⟩ := halv_f d hd.1 hd.2 65 (by omega)
      obtain rfl : u' = u := Option.some.inj (((impl_HalvingsOf.mono x 65 _ u2').symm.trans u2))
      obtain rfl : v' = v := Option.some.inj (((impl_HalvingsOf.mono y 65 _ v2').symm.trans v2))
      obtain rfl : s' = s := Option.some.inj (((impl_HalvingsOf.mono d 65 _ s2').symm.trans s2))
      simp only [h1, h2, show x ≤ 40 by omega, show y ≤ 40 by omega, and_true, decide_true, if_true, spec_l14Color.f, u1, v1, s1, Option.bind_some, show ¬ (x > d) by omega, if_false, show ¬ (y > d) by omega, decide_false, impl_ColorOf.j0, u2', v2', s2', spec_l14Color.j0, impl_ColorOf.j1, Bool.false_eq_true]
      by_cases g1 : u' > s'
      · by_cases g2 : v' > s'
        · exact ⟨0, by simp [g1, g2], by simp [g1, g2], by omega⟩
        · by_cases g3 : u' ≤ v'
          · exact ⟨1, by simp [g1, g2, g3], by simp [g1, g2, g3], by omega⟩
          · exact ⟨2, by simp [g1, g2, g3], by simp [g1, g2, g3], by omega⟩
      · by_cases g3 : u' ≤ v'
        · exact ⟨1, by simp [g1, g3], by simp [g1, g3], by omega⟩
        · exact ⟨2, by simp [g1, g3], by simp [g1, g3], by omega⟩
    · refine ⟨-1, ?_, ?_, by omega⟩
      · by_cases h3 : 0 ≤ x ∧ x ≤ d
        · have h4 : ¬ (0 ≤ y ∧ y ≤ d) := fun h => h2 ⟨h3, h⟩
          simp [h1, h3, h4]
        · simp [h1, h3]
      · by_cases h3 : 0 ≤ x ∧ x ≤ 40
        · by_cases h4 : 0 ≤ y ∧ y ≤ 40
          · by_cases h5 : x > d
            · simp [h1, h3, h4, h5, impl_ColorOf.j0]
            · simp [h1, h3, h4, h5, impl_ColorOf.j0, show y > d by omega]
          · simp [h1, h3, h4, impl_ColorOf.j0]
        · simp [h1, h3, impl_ColorOf.j0]
  · refine ⟨-1, ?_, ?_, by omega⟩
    · simp [h1]
    · simp [h1, impl_ColorOf.j0]

theorem sort_all : ∀ a b c : Fin 4, ((slices_Sort_int_int.f 64 [(a.val : Int) - 1, (b.val : Int) - 1, (c.val : Int) - 1]).bind fun t => slices_Equal_int_int.f 64 t [0, 1, 2]) = some (decide (0 ≤ (a.val : Int) - 1) && decide (0 ≤ (b.val : Int) - 1) && decide (0 ≤ (c.val : Int) - 1) && !decide ((a.val : Int) - 1 = (b.val : Int) - 1) && !decide ((b.val : Int) - 1 = (c.val : Int) - 1) && !decide ((a.val : Int) - 1 = (c.val : Int) - 1)) := by decide +kernel
theorem sort_at (x y z : Int) (hx : -1 ≤ x ∧ x ≤ 2) (hy : -1 ≤ y ∧ y ≤ 2) (hz : -1 ≤ z ∧ z ≤ 2) : ((slices_Sort_int_int.f 66 [x, y, z]).bind fun t => slices_Equal_int_int.f 66 t [0, 1, 2]) = some (decide (0 ≤ x) && decide (0 ≤ y) && decide (0 ≤ z) && !decide (x = y) && !decide (y = z) && !decide (x = z)) := by
  have h := sort_all ⟨(x + 1).toNat, by omega⟩ ⟨(y + 1).toNat, by omega⟩ ⟨(z + 1).toNat, by omega⟩
  have ex : (((x + 1).toNat : Nat) : Int) - 1 = x := by omega
  have ey : (((y + 1).toNat : Nat) : Int) - 1 = y := by omega
  have ez : (((z + 1).toNat : Nat) : Int) - 1 = z := by omega
  simp only [ex, ey, ez] at h
  obtain ⟨t, h1, h2⟩ := Option.bind_eq_some_iff.mp h
  rw [more_of (f := fun k => slices_Sort_int_int.f k [x, y, z]) (fun k => slices_Sort_int_int.mono _ k) h1 66 (by omega), Option.bind_some]
  exact more_of (f := fun k => slices_Equal_int_int.f k t [0, 1, 2]) (fun k => slices_Equal_int_int.mono _ _ k) h2 66 (by omega)
theorem FnExactIsRainbow : laws_FnExactIsRainbow.Pure := by
  intro d x0 x1 y0 y1 z0 z1 hd hx0 hx1 hy0 hy1 hz0 hz1
  obtain ⟨x, a1, a2, a3⟩ := color_f d x0 x1 (wf64 hd) (wf64 hx0) (wf64 hx1)
  obtain ⟨y, b1, b2, b3⟩ := color_f d y0 y1 (wf64 hd) (wf64 hy0) (wf64 hy1)
  obtain ⟨z, c1, c2, c3⟩ := color_f d z0 z1 (wf64 hd) (wf64 hz0) (wf64 hz1)
  refine ⟨66, ?_⟩
  have hs := sort_at x y z a3 b3 c3
  obtain ⟨t, h1, h2⟩ := Option.bind_eq_some_iff.mp hs
  have hspec : spec_IsRainbow.f 66 d x0 x1 y0 y1 z0 z1 = some (decide (0 ≤ x) && decide (0 ≤ y) && decide (0 ≤ z) && !decide (x = y) && !decide (y = z) && !decide (x = z)) := by
    simp only [spec_IsRainbow.f, a1, b1, c1, Option.bind_some]
    by_cases e1 : x ≥ 0
    · by_cases e2 : y ≥ 0
      · by_cases e3 : z ≥ 0
        · by_cases e4 : x = y
          · simp [e1, e2, e3, e4]
          · by_cases e5 : y = z
            · simp [e1, e2, e3, e4, e5]
            · rw [if_pos e1, if_pos e2, if_pos e3, if_neg e4, if_neg e5]
              by_cases e6 : x = z
              · subst e6; simp [e4, e5]
              · simp [e4, e5, e6, show (0 ≤ x) from e1, show (0 ≤ y) from e2, show (0 ≤ z) from e3]
        · rw [if_pos e1, if_pos e2, if_neg e3]; simp [show ¬ (0 ≤ z) from e3]
      · rw [if_pos e1, if_neg e2]; simp [show ¬ (0 ≤ y) from e2]
    · rw [if_neg e1]; simp [show ¬ (0 ≤ x) from e1]
  simp only [laws_FnExactIsRainbow.f, laws_toPoint.f, Option.bind_some, hspec, impl_IsRainbow.f, a2, b2, c2, h1, h2]
  simp

end Go.Proofs.Ytkndopemfleedaa.Pure
