/- The two texts of HalvingsOf are one function, and it ends: a number that is not 0 is halved until it is odd. -/
import Derived.Test.YtlcobdefieimmaaPFnExactHalvingsOfx1
namespace Go.Proofs.Ytlcobdefieimmaa.Pure
open Go.RowKit Go.Proofs.Ytlcobdefieimmaa.PFnExactHalvingsOf Go.Proofs.YtlcobdefieimmaaW.PrintWords Go.Proofs.YtlcobdefieimmaaW.PrintLast

theorem half_of {x : Int} (h : Int.tmod x 2 = 0) : 2 * Int.tdiv x 2 = x := by
  have := Int.mul_tdiv_add_tmod x 2
  omega

theorem halvings_both (k : Nat) : ∀ (x n : Int), x ≠ 0 → x.natAbs < 2 ^ k → -9223372036854775808 ≤ x → x ≤ 9223372036854775807 → ∃ r, spec_HalvingsOf.l0 k x n = some r ∧ impl_HalvingsOf.l0 k x n = some r := by
  induction k with
  | zero => intro x n h0 h1; simp at h1; omega
  | succ k ih =>
    intro x n h0 h1 h2 h3
    simp only [spec_HalvingsOf.l0, impl_HalvingsOf.l0]
    by_cases e : Int.tmod x 2 = 0
    · have hx := half_of e
      rw [if_pos e, if_pos e]
      have hw : wrap64 (Int.tdiv x 2) = Int.tdiv x 2 := by unfold wrap64; omega
      rw [hw]
      refine ih _ _ (by omega) ?_ (by omega) (by omega)
      rw [Nat.pow_succ] at h1
      omega
    · rw [if_neg e, if_neg e]
      exact ⟨n, rfl, rfl⟩

theorem FnExactHalvingsOf : laws_FnExactHalvingsOf.Pure := by
  intro x hx
  have hb : -9223372036854775808 ≤ x ∧ x ≤ 9223372036854775807 := by
    simp only [Lit.wf, IntKind.min, IntKind.max, IntKind.signed, IntKind.bits, Bool.and_eq_true, decide_eq_true_eq, if_true] at hx
    omega
  by_cases h0 : x = 0
  · subst h0
    exact ⟨0, by simp [laws_FnExactHalvingsOf.f, spec_HalvingsOf.f, impl_HalvingsOf.f]⟩
  · obtain ⟨r, h1, h2⟩ := halvings_both 64 x 0 h0 (by omega) hb.1 hb.2
    refine ⟨64, ?_⟩
    simp only [laws_FnExactHalvingsOf.f, spec_HalvingsOf.f, impl_HalvingsOf.f]
    rw [if_neg h0, if_neg h0, h1, h2]
    simp
end Go.Proofs.Ytlcobdefieimmaa.Pure
