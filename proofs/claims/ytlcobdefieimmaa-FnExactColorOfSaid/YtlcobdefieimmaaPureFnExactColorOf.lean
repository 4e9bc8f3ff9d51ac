/- ColorOf: both texts give -1 outside the square, and else compare how often the numbers can be halved. -/
import Derived.Test.YtlcobdefieimmaaXFnExactColorOfx2
namespace Go.Proofs.Ytlcobdefieimmaa.Pure
open Go.RowKit Go.Proofs.Ytlcobdefieimmaa.XFnExactColorOf Go.Proofs.YtlcobdefieimmaaW.PrintWords Go.Proofs.YtlcobdefieimmaaW.PrintLast
set_option linter.unusedVariables false
set_option linter.unusedSimpArgs false
theorem wf64 {x : Int} (h : (Lit.int .i64 x).wf = true) : -9223372036854775808 ≤ x ∧ x ≤ 9223372036854775807 := by
  simp only [Lit.wf, IntKind.min, IntKind.max, IntKind.signed, IntKind.bits, Bool.and_eq_true, decide_eq_true_eq, if_true] at h
  omega
theorem w64 {x : Int} (h0 : -9223372036854775808 ≤ x) (h1 : x ≤ 9223372036854775807) : wrap64 x = x := by
  unfold wrap64
  omega
theorem succ_of {d k : Nat} (h : d < k) : ∃ m, k = m + 1 := ⟨k - 1, by omega⟩
theorem rd_nat (l : List Int) (i : Nat) : rd l (i : Int) = l.getD i 0 := by simp [rd]
theorem rd_get (l : List Int) (i : Nat) (h : i < l.length) : rd l (i : Int) = l[i] := by simp [rd, List.getD_eq_getElem?_getD, h]
theorem w1 {i : Nat} (h : i ≤ 140737488355328) : wrap64 ((i : Int) + 1) = ((i + 1 : Nat) : Int) := by
  unfold wrap64
  omega
theorem lt_t {i n : Nat} (h : i < n) : ((i : Int) < (n : Int)) = True := eq_true (by omega)
theorem lt_f {i n : Nat} (h : n ≤ i) : ((i : Int) < (n : Int)) = False := eq_false (by omega)
theorem nn_t (i : Nat) : (0 ≤ (i : Int)) = True := eq_true (by omega)
theorem w64n (n : Nat) (h : n ≤ 9223372036854775807) : wrap64 (n : Int) = (n : Int) := w64 (by omega) (by omega)
theorem w64sub (a b c : Nat) (ha : a ≤ 9223372036854775807) (h : a = b + c) : wrap64 ((a : Int) - (b : Int)) = (c : Int) := by
  rw [w64 (by omega) (by omega)]
  omega

theorem half_of {x : Int} (h : Int.tmod x 2 = 0) : 2 * Int.tdiv x 2 = x := by
  have := Int.mul_tdiv_add_tmod x 2
  omega
theorem halv_l (k : Nat) : ∀ (x n : Int), x ≠ 0 → x.natAbs < 2 ^ k → -9223372036854775808 ≤ x → x ≤ 9223372036854775807 → ∃ r, spec_HalvingsOf.l0 k x n = some r ∧ impl_HalvingsOf.l0 k x n = some r := by
  induction k with
  | zero => intro x n h0 h1; simp at h1; omega
  | succ k ih =>
    intro x n h0 h1 h2 h3
    simp only [spec_HalvingsOf.l0, impl_HalvingsOf.l0]
    by_cases e : Int.tmod x 2 = 0
    · have hx := half_of e
      rw [if_pos e, if_pos e]
      have hw : wrap64 (Int.tdiv x 2) = Int.tdiv x 2 := by unfold wrap64; omega
      rw [hw]
      refine ih _ _ (by omega) ?_ (by omega) (by omega)
      rw [Nat.pow_succ] at h1
      omega
    · rw [if_neg e, if_neg e]
      exact ⟨n, rfl, rfl⟩
theorem halv_f (x : Int) (h2 : -9223372036854775808 ≤ x) (h3 : x ≤ 9223372036854775807) (k : Nat) (hk : 64 ≤ k) : ∃ r, spec_HalvingsOf.f k x = some r ∧ impl_HalvingsOf.f k x = some r := by
  unfold spec_HalvingsOf.f impl_HalvingsOf.f
  by_cases h0 : x = 0
  · rw [if_pos h0, if_pos h0]; exact ⟨100, rfl, rfl⟩
  · rw [if_neg h0, if_neg h0]
    refine halv_l k x 0 h0 ?_ h2 h3
    have : 2 ^ 64 ≤ 2 ^ k := Nat.pow_le_pow_right (by omega) hk
    have h64 : x.natAbs < 2 ^ 64 := by omega
    exact Nat.lt_of_lt_of_le h64 this

theorem within_f (a b c : Int) : impl_within.f a b c = some (decide (b ≤ a ∧ a ≤ c)) := by
  unfold impl_within.f
  by_cases h : a ≥ b
  · rw [if_pos h]; simp [show b ≤ a from h]
  · rw [if_neg h]; simp [show ¬ b ≤ a from h]
theorem l01In_f (a b c : Int) : spec_l01In.f a b c = some (decide (b ≤ a ∧ a ≤ c)) := by
  unfold spec_l01In.f
  by_cases h : a ≥ b
  · rw [if_pos h]; simp [show b ≤ a from h]
  · rw [if_neg h]; simp [show ¬ b ≤ a from h]
theorem color_f (d x y : Int) (hd : -9223372036854775808 ≤ d ∧ d ≤ 9223372036854775807) (hx : -9223372036854775808 ≤ x ∧ x ≤ 9223372036854775807) (hy : -9223372036854775808 ≤ y ∧ y ≤ 9223372036854775807) :
    ∃ r, spec_ColorOf.f 66 d x y = some r ∧ impl_ColorOf.f 66 d x y = some r := by
  unfold spec_ColorOf.f impl_ColorOf.f
  simp only [l01In_f, within_f, Option.bind_some, impl_PointOk.f]
  by_cases h1 : 1 ≤ d ∧ d ≤ 40
  · by_cases h2 : (0 ≤ x ∧ x ≤ d) ∧ (0 ≤ y ∧ y ≤ d)
    · obtain ⟨u, u1, u2⟩ := halv_f x hx.1 hx.2 66 (by omega)
      obtain ⟨v, v1, v2⟩ := halv_f y hy.1 hy.2 66 (by omega)
      obtain ⟨s, s1, s2⟩ := halv_f d hd.1 hd.2 66 (by omega)
      obtain ⟨u', u1', u2'⟩ := halv_f x hx.1 hx.2 65 (by omega)
      obtain ⟨v', v1', v2'⟩ := halv_f y hy.1 hy.2 65 (by omega)
      obtain ⟨s', s1', s2'⟩ := halv_f d hd.1 hd.2 65 (by omega)
      obtain rfl : u' = u := Option.some.inj (((impl_HalvingsOf.mono x 65 _ u2').symm.trans u2))
      obtain rfl : v' = v := Option.some.inj (((impl_HalvingsOf.mono y 65 _ v2').symm.trans v2))
      obtain rfl : s' = s := Option.some.inj (((impl_HalvingsOf.mono d 65 _ s2').symm.trans s2))
      simp only [h1, h2, show x ≤ 40 by omega, show y ≤ 40 by omega, and_true, decide_true, if_true, spec_l14Color.f, u1, v1, s1, Option.bind_some, show ¬ (x > d) by omega, if_false, show ¬ (y > d) by omega, decide_false, impl_ColorOf.j0, u2', v2', s2', spec_l14Color.j0, impl_ColorOf.j1, Bool.false_eq_true]
      by_cases g1 : u' > s'
      · by_cases g2 : v' > s'
        · exact ⟨0, by simp [g1, g2], by simp [g1, g2]⟩
        · by_cases g3 : u' ≤ v'
          · exact ⟨1, by simp [g1, g2, g3], by simp [g1, g2, g3]⟩
          · exact ⟨2, by simp [g1, g2, g3], by simp [g1, g2, g3]⟩
      · by_cases g3 : u' ≤ v'
        · exact ⟨1, by simp [g1, g3], by simp [g1, g3]⟩
        · exact ⟨2, by simp [g1, g3], by simp [g1, g3]⟩
    · refine ⟨-1, ?_, ?_⟩
      · by_cases h3 : 0 ≤ x ∧ x ≤ d
        · have h4 : ¬ (0 ≤ y ∧ y ≤ d) := fun h => h2 ⟨h3, h⟩
          simp [h1, h3, h4]
        · simp [h1, h3]
      · by_cases h3 : 0 ≤ x ∧ x ≤ 40
        · by_cases h4 : 0 ≤ y ∧ y ≤ 40
          · by_cases h5 : x > d
            · simp [h1, h3, h4, h5, impl_ColorOf.j0]
            · simp [h1, h3, h4, h5, impl_ColorOf.j0, show y > d by omega]
          · simp [h1, h3, h4, impl_ColorOf.j0]
        · simp [h1, h3, impl_ColorOf.j0]
  · refine ⟨-1, ?_, ?_⟩
    · simp [h1]
    · simp [h1, impl_ColorOf.j0]
theorem FnExactColorOf : laws_FnExactColorOf.Pure := by
  intro d x y hd hx hy
  obtain ⟨r, h1, h2⟩ := color_f d x y (wf64 hd) (wf64 hx) (wf64 hy)
  refine ⟨66, ?_⟩
  simp only [laws_FnExactColorOf.f, laws_toPoint.f, Option.bind_some, h1, h2]
  simp

end Go.Proofs.Ytlcobdefieimmaa.Pure
