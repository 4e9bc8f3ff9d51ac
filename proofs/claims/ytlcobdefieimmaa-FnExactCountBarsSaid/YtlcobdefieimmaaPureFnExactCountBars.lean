/- CountBars: both texts give 1 plus the greatest number, or -1 if a number is not from 0 to 100. -/
import Derived.Test.YtlcobdefieimmaaXFnExactCountBarsx1
namespace Go.Proofs.Ytlcobdefieimmaa.Pure
open Go.RowKit Go.Proofs.Ytlcobdefieimmaa.XFnExactCountBars Go.Proofs.YtlcobdefieimmaaW.PrintWords Go.Proofs.YtlcobdefieimmaaW.PrintLast
set_option linter.unusedVariables false
set_option linter.unusedSimpArgs false
theorem wf64 {x : Int} (h : (Lit.int .i64 x).wf = true) : -9223372036854775808 ≤ x ∧ x ≤ 9223372036854775807 := by
  simp only [Lit.wf, IntKind.min, IntKind.max, IntKind.signed, IntKind.bits, Bool.and_eq_true, decide_eq_true_eq, if_true] at h
  omega
theorem w64 {x : Int} (h0 : -9223372036854775808 ≤ x) (h1 : x ≤ 9223372036854775807) : wrap64 x = x := by
  unfold wrap64
  omega
theorem succ_of {d k : Nat} (h : d < k) : ∃ m, k = m + 1 := ⟨k - 1, by omega⟩
theorem rd_nat (l : List Int) (i : Nat) : rd l (i : Int) = l.getD i 0 := by simp [rd]
theorem rd_get (l : List Int) (i : Nat) (h : i < l.length) : rd l (i : Int) = l[i] := by simp [rd, List.getD_eq_getElem?_getD, h]
theorem w1 {i : Nat} (h : i ≤ 140737488355328) : wrap64 ((i : Int) + 1) = ((i + 1 : Nat) : Int) := by
  unfold wrap64
  omega
theorem lt_t {i n : Nat} (h : i < n) : ((i : Int) < (n : Int)) = True := eq_true (by omega)
theorem lt_f {i n : Nat} (h : n ≤ i) : ((i : Int) < (n : Int)) = False := eq_false (by omega)
theorem nn_t (i : Nat) : (0 ≤ (i : Int)) = True := eq_true (by omega)

theorem toIntS_l (l : List Int) (hl : l.length ≤ 35184372088832) (d : Nat) : ∀ (k : Nat) (ys : List Int) (i : Nat), l.length - i = d → i ≤ l.length → ys.length = l.length → ys.take i = l.take i → d < k → laws_toIntS.l0 k l ys (i : Int) = some l := by
  induction d with
  | zero =>
    intro k ys i hd hi hy ht hk
    obtain ⟨k, rfl⟩ := succ_of hk
    simp only [laws_toIntS.l0]
    rw [if_neg (by omega)]
    have : i = l.length := by omega
    subst this
    rw [List.take_length, ← hy, List.take_length] at ht
    rw [ht]
  | succ d ih =>
    intro k ys i hd hi hy ht hk
    obtain ⟨k, rfl⟩ := succ_of hk
    simp only [laws_toIntS.l0]
    rw [if_pos (by omega), if_pos (by omega), if_pos (by omega), w1 (by omega), rd_get l i (by omega)]
    refine ih k _ (i + 1) (by omega) (by omega) (by simp [hy]) ?_ (by omega)
    rw [Int.toNat_natCast, List.take_add_one, List.take_add_one, List.take_set_of_le (Nat.le_refl _), ht]
    simp [hy, show i < l.length by omega]
theorem toIntS (l : List Int) (hl : l.length ≤ 35184372088832) (k : Nat) (hk : l.length < k) : laws_toIntS.f k l = some l := by
  unfold laws_toIntS.f
  rw [if_pos (by omega), if_pos (by omega)]
  exact toIntS_l l hl l.length k _ 0 (by omega) (by omega) (by simp) rfl hk
theorem eqIntS_l (l m : List Int) (hl : l.length ≤ 35184372088832) (he : l.length = m.length) (d : Nat) : ∀ (k : Nat) (i : Nat), l.length - i = d → i ≤ l.length → d < k → laws_eqIntS.l0 k l m (i : Int) = some (decide (l.drop i = m.drop i)) := by
  induction d with
  | zero =>
    intro k i hd hi hk
    obtain ⟨k, rfl⟩ := succ_of hk
    simp only [laws_eqIntS.l0]
    rw [if_neg (by omega), List.drop_of_length_le (by omega), List.drop_of_length_le (by omega)]
    simp
  | succ d ih =>
    intro k i hd hi hk
    obtain ⟨k, rfl⟩ := succ_of hk
    simp only [laws_eqIntS.l0]
    rw [if_pos (by omega), if_pos (by omega), if_pos (by omega), w1 (by omega), rd_get l i (by omega), rd_get m i (by omega), ih k (i + 1) (by omega) (by omega) (by omega)]
    have h1 := List.drop_eq_getElem_cons (show i < l.length by omega)
    have h2 := List.drop_eq_getElem_cons (show i < m.length by omega)
    by_cases e : l[i]'(by omega) = m[i]'(by omega)
    · rw [if_pos e, h1, h2]
      simp only [List.cons.injEq, e, true_and]
    · rw [if_neg e, h1, h2]
      simp only [List.cons.injEq, e, false_and, decide_false]
theorem eqIntS (l m : List Int) (hl : l.length ≤ 35184372088832) (k : Nat) (hk : l.length < k) : laws_eqIntS.f k l m = some (decide (l = m)) := by
  unfold laws_eqIntS.f
  by_cases e : l.length = m.length
  · rw [if_pos (by omega)]
    have := eqIntS_l l m hl e l.length k 0 (by omega) (by omega) hk
    simpa using this
  · rw [if_neg (by omega)]
    have : l ≠ m := fun h => e (by rw [h])
    simp [this]

theorem both_l (l : List Int) (hl : l.length ≤ 1048576) (d : Nat) : ∀ (k : Nat) (m : Int) (i : Nat), l.length - i = d → i ≤ l.length → d < k → -1 ≤ m → m ≤ 100 → ∃ r, spec_CountBars.l0 k (m + 1) l (l.length : Int) (i : Int) = some r ∧ impl_CountBars.l0 k m l (l.length : Int) (i : Int) = some r := by
  induction d with
  | zero =>
    intro k m i hd hi hk h0 h1
    obtain ⟨k, rfl⟩ := succ_of hk
    refine ⟨m + 1, ?_, ?_⟩
    · simp only [spec_CountBars.l0]
      rw [if_neg (by omega)]
    · simp only [impl_CountBars.l0]
      rw [if_neg (by omega), w64 (by omega) (by omega)]
  | succ d ih =>
    intro k m i hd hi hk h0 h1
    obtain ⟨k, rfl⟩ := succ_of hk
    have hlt : i < l.length := by omega
    simp only [spec_CountBars.l0, impl_CountBars.l0, spec_l01In.f, impl_within.f, lt_t hlt, nn_t, if_true, w1 (show i ≤ 140737488355328 by omega)]
    generalize rd l (i : Int) = x
    by_cases hx : 0 ≤ x ∧ x ≤ 100
    · simp only [ge_iff_le, hx.1, hx.2, decide_true, if_true, Option.bind_some]
      rw [w64 (by omega) (by omega)]
      have hm : mx (m + 1) (x + 1) = mx m x + 1 := by unfold mx; split <;> split <;> omega
      rw [hm]
      have hb : -1 ≤ mx m x ∧ mx m x ≤ 100 := by unfold mx; split <;> omega
      exact ih k (mx m x) (i + 1) (by omega) (by omega) (by omega) hb.1 hb.2
    · refine ⟨-1, ?_⟩
      by_cases h : x ≥ 0
      · simp [h, show ¬ x ≤ 100 by omega]
      · simp [h]
theorem FnExactCountBars : laws_FnExactCountBars.Pure := by
  intro l _ h8 _
  refine ⟨l.length + 1, ?_⟩
  unfold laws_FnExactCountBars.f
  by_cases hl : (l.length : Int) > 1048576
  · rw [if_pos hl]
  · rw [if_neg hl, toIntS l (by omega) _ (by omega)]
    obtain ⟨r, h1, h2⟩ := both_l l (by omega) l.length (l.length + 1) (-1) 0 (by omega) (by omega) (by omega) (by omega) (by omega)
    have h3 : spec_CountBars.f (l.length + 1) l = some r := h1
    have h4 : impl_CountBars.f (l.length + 1) l = some r := h2
    simp only [Option.bind_some, h3, h4, eqIntS l l (by omega) _ (Nat.lt_succ_self _)]
    simp

end Go.Proofs.Ytlcobdefieimmaa.Pure
