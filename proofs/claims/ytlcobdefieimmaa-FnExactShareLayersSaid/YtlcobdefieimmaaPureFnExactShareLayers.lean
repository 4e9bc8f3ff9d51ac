/- ShareLayers: both texts add what is wanted and divide by the room, rounded up. -/
import Derived.Test.YtlcobdefieimmaaXFnExactShareLayersx2
namespace Go.Proofs.Ytlcobdefieimmaa.Pure
open Go.RowKit Go.Proofs.Ytlcobdefieimmaa.XFnExactShareLayers Go.Proofs.YtlcobdefieimmaaW.PrintWords Go.Proofs.YtlcobdefieimmaaW.PrintLast
set_option linter.unusedVariables false
set_option linter.unusedSimpArgs false
theorem wf64 {x : Int} (h : (Lit.int .i64 x).wf = true) : -9223372036854775808 ≤ x ∧ x ≤ 9223372036854775807 := by
  simp only [Lit.wf, IntKind.min, IntKind.max, IntKind.signed, IntKind.bits, Bool.and_eq_true, decide_eq_true_eq, if_true] at h
  omega
theorem w64 {x : Int} (h0 : -9223372036854775808 ≤ x) (h1 : x ≤ 9223372036854775807) : wrap64 x = x := by
  unfold wrap64
  omega
theorem succ_of {d k : Nat} (h : d < k) : ∃ m, k = m + 1 := ⟨k - 1, by omega⟩
theorem rd_nat (l : List Int) (i : Nat) : rd l (i : Int) = l.getD i 0 := by simp [rd]
theorem rd_get (l : List Int) (i : Nat) (h : i < l.length) : rd l (i : Int) = l[i] := by simp [rd, List.getD_eq_getElem?_getD, h]
theorem w1 {i : Nat} (h : i ≤ 140737488355328) : wrap64 ((i : Int) + 1) = ((i + 1 : Nat) : Int) := by
  unfold wrap64
  omega
theorem lt_t {i n : Nat} (h : i < n) : ((i : Int) < (n : Int)) = True := eq_true (by omega)
theorem lt_f {i n : Nat} (h : n ≤ i) : ((i : Int) < (n : Int)) = False := eq_false (by omega)
theorem nn_t (i : Nat) : (0 ≤ (i : Int)) = True := eq_true (by omega)
theorem w64n (n : Nat) (h : n ≤ 9223372036854775807) : wrap64 (n : Int) = (n : Int) := w64 (by omega) (by omega)
theorem w64sub (a b c : Nat) (ha : a ≤ 9223372036854775807) (h : a = b + c) : wrap64 ((a : Int) - (b : Int)) = (c : Int) := by
  rw [w64 (by omega) (by omega)]
  omega

theorem toIntS_l (l : List Int) (hl : l.length ≤ 35184372088832) (d : Nat) : ∀ (k : Nat) (ys : List Int) (i : Nat), l.length - i = d → i ≤ l.length → ys.length = l.length → ys.take i = l.take i → d < k → laws_toIntS.l0 k l ys (i : Int) = some l := by
  induction d with
  | zero =>
    intro k ys i hd hi hy ht hk
    obtain ⟨k, rfl⟩ := succ_of hk
    simp only [laws_toIntS.l0]
    rw [if_neg (by omega)]
    have : i = l.length := by omega
    subst this
    rw [List.take_length, ← hy, List.take_length] at ht
    rw [ht]
  | succ d ih =>
    intro k ys i hd hi hy ht hk
    obtain ⟨k, rfl⟩ := succ_of hk
    simp only [laws_toIntS.l0]
    rw [if_pos (by omega), if_pos (by omega), if_pos (by omega), w1 (by omega), rd_get l i (by omega)]
    refine ih k _ (i + 1) (by omega) (by omega) (by simp [hy]) ?_ (by omega)
    rw [Int.toNat_natCast, List.take_add_one, List.take_add_one, List.take_set_of_le (Nat.le_refl _), ht]
    simp [hy, show i < l.length by omega]
theorem toIntS (l : List Int) (hl : l.length ≤ 35184372088832) (k : Nat) (hk : l.length < k) : laws_toIntS.f k l = some l := by
  unfold laws_toIntS.f
  rw [if_pos (by omega), if_pos (by omega)]
  exact toIntS_l l hl l.length k _ 0 (by omega) (by omega) (by simp) rfl hk
theorem eqIntS_l (l m : List Int) (hl : l.length ≤ 35184372088832) (he : l.length = m.length) (d : Nat) : ∀ (k : Nat) (i : Nat), l.length - i = d → i ≤ l.length → d < k → laws_eqIntS.l0 k l m (i : Int) = some (decide (l.drop i = m.drop i)) := by
  induction d with
  | zero =>
    intro k i hd hi hk
    obtain ⟨k, rfl⟩ := succ_of hk
    simp only [laws_eqIntS.l0]
    rw [if_neg (by omega), List.drop_of_length_le (by omega), List.drop_of_length_le (by omega)]
    simp
  | succ d ih =>
    intro k i hd hi hk
    obtain ⟨k, rfl⟩ := succ_of hk
    simp only [laws_eqIntS.l0]
    rw [if_pos (by omega), if_pos (by omega), if_pos (by omega), w1 (by omega), rd_get l i (by omega), rd_get m i (by omega), ih k (i + 1) (by omega) (by omega) (by omega)]
    have h1 := List.drop_eq_getElem_cons (show i < l.length by omega)
    have h2 := List.drop_eq_getElem_cons (show i < m.length by omega)
    by_cases e : l[i]'(by omega) = m[i]'(by omega)
    · rw [if_pos e, h1, h2]
      simp only [List.cons.injEq, e, true_and]
    · rw [if_neg e, h1, h2]
      simp only [List.cons.injEq, e, false_and, decide_false]
theorem eqIntS (l m : List Int) (hl : l.length ≤ 35184372088832) (k : Nat) (hk : l.length < k) : laws_eqIntS.f k l m = some (decide (l = m)) := by
  unfold laws_eqIntS.f
  by_cases e : l.length = m.length
  · rw [if_pos (by omega)]
    have := eqIntS_l l m hl e l.length k 0 (by omega) (by omega) hk
    simpa using this
  · rw [if_neg (by omega)]
    have : l ≠ m := fun h => e (by rw [h])
    simp [this]

theorem within_f (a b c : Int) : impl_within.f a b c = some (decide (b ≤ a ∧ a ≤ c)) := by
  unfold impl_within.f
  by_cases h : a ≥ b
  · rw [if_pos h]; simp [show b ≤ a from h]
  · rw [if_neg h]; simp [show ¬ b ≤ a from h]
theorem l01In_f (a b c : Int) : spec_l01In.f a b c = some (decide (b ≤ a ∧ a ≤ c)) := by
  unfold spec_l01In.f
  by_cases h : a ≥ b
  · rw [if_pos h]; simp [show b ≤ a from h]
  · rw [if_neg h]; simp [show ¬ b ≤ a from h]

theorem wanted_l (l : List Int) (hl : l.length ≤ 5) (d : Nat) : ∀ (k i : Nat), l.length - i = d → i ≤ l.length → d < k → spec_WantedOk.l0 k l (l.length : Int) (i : Int) = some ((l.drop i).all fun p => decide (0 ≤ p ∧ p ≤ 100)) := by
  induction d with
  | zero =>
    intro k i hd hi hk
    obtain ⟨k, rfl⟩ := succ_of hk
    simp only [spec_WantedOk.l0, lt_f (show l.length ≤ i by omega), if_false, List.drop_of_length_le (show l.length ≤ i by omega), List.all_nil]
  | succ d ih =>
    intro k i hd hi hk
    obtain ⟨k, rfl⟩ := succ_of hk
    have hlt : i < l.length := by omega
    have hih := ih k (i + 1) (by omega) (by omega) (by omega)
    rw [List.drop_eq_getElem_cons hlt, List.all_cons]
    simp only [spec_WantedOk.l0, lt_t hlt, nn_t, if_true, rd_get l i hlt, l01In_f, Option.bind_some, w1 (show i ≤ 140737488355328 by omega), hih]
    by_cases g : 0 ≤ l[i] ∧ l[i] ≤ 100
    · simp [g]
    · simp [g]
def wantedOk (l : List Int) : Bool := decide (1 ≤ l.length ∧ l.length ≤ 5) && l.all fun p => decide (0 ≤ p ∧ p ≤ 100)
theorem wanted_f (l : List Int) (k : Nat) (hk : 9 < k) : spec_WantedOk.f k l = some (wantedOk l) := by
  unfold spec_WantedOk.f wantedOk
  simp only [l01In_f, Option.bind_some]
  by_cases h1 : 1 ≤ l.length ∧ l.length ≤ 5
  · have := wanted_l l h1.2 l.length k 0 (by omega) (by omega) (by omega)
    simp only [Int.ofNat_zero, List.drop_zero] at this
    rw [show (0 : Int) = ((0 : Nat) : Int) from rfl] at this ⊢
    rw [this]
    generalize (l.all fun p => decide (((0 : Nat) : Int) ≤ p ∧ p ≤ 100)) = q
    simp [h1, show (1 : Int) ≤ (l.length : Int) by omega, show (l.length : Int) ≤ 5 by omega]
  · have : ¬ ((1 : Int) ≤ (l.length : Int) ∧ (l.length : Int) ≤ 5) := by omega
    simp only [this, h1, decide_false, Bool.false_and]
    rfl
theorem wanted_impl (l : List Int) : impl_WantedOk.f l = some (wantedOk l) := by
  unfold impl_WantedOk.f wantedOk impl_areWithin.f
  generalize (l.all fun p => decide ((0 : Int) ≤ p ∧ p ≤ 100)) = q
  by_cases h1 : (l.length : Int) ≥ 1
  · by_cases h2 : (l.length : Int) ≤ 5
    · rw [if_pos h1, if_pos h2]
      simp [show 1 ≤ l.length by omega, show l.length ≤ 5 by omega]
    · rw [if_pos h1, if_neg h2]
      simp [show ¬ (l.length ≤ 5) by omega]
  · rw [if_neg h1]
    simp [show ¬ (1 ≤ l.length) by omega]

theorem sum_l (l : List Int) (hl : l.length ≤ 1048576) (d : Nat) : ∀ (k i : Nat) (s : Int), l.length - i = d → i ≤ l.length → d < k → ∃ r, spec_l19Sum.l0 k s l (l.length : Int) (i : Int) = some r ∧ impl_sumOf.l0 k s l (l.length : Int) (i : Int) = some r := by
  induction d with
  | zero =>
    intro k i s hd hi hk
    obtain ⟨k, rfl⟩ := succ_of hk
    simp only [spec_l19Sum.l0, impl_sumOf.l0, lt_f (show l.length ≤ i by omega), if_false]
    exact ⟨_, rfl, rfl⟩
  | succ d ih =>
    intro k i s hd hi hk
    obtain ⟨k, rfl⟩ := succ_of hk
    have hlt : i < l.length := by omega
    simp only [spec_l19Sum.l0, impl_sumOf.l0, lt_t hlt, nn_t, if_true, w1 (show i ≤ 140737488355328 by omega)]
    exact ih k (i + 1) _ (by omega) (by omega) (by omega)
theorem sum_f (l : List Int) (hl : l.length ≤ 1048576) (k : Nat) (hk : l.length < k) : ∃ r, spec_l19Sum.f k l = some r ∧ impl_sumOf.f k l = some r := sum_l l hl l.length k 0 0 (by omega) (by omega) hk

theorem FnExactShareLayers : laws_FnExactShareLayers.Pure := by
  intro l room _ _ _ _
  refine ⟨l.length + 15, ?_⟩
  unfold laws_FnExactShareLayers.f
  by_cases hl : (l.length : Int) > 1048576
  · rw [if_pos hl]
  · rw [if_neg hl, toIntS l (by omega) _ (by omega)]
    obtain ⟨r, h1, h2⟩ := sum_f l (by omega) (l.length + 15) (by omega)
    simp only [Option.bind_some, spec_ShareLayers.f, impl_ShareLayers.f, wanted_f l _ (show 9 < l.length + 15 by omega), wanted_impl, l01In_f, within_f, h1, h2, eqIntS l l (by omega) _ (show l.length < l.length + 15 by omega)]
    by_cases g1 : wantedOk l = true
    · by_cases g2 : 1 ≤ room ∧ room ≤ 8
      · simp [g1, g2, show ¬ room = 0 by omega]
      · simp [g1, g2]
    · simp [g1]

end Go.Proofs.Ytlcobdefieimmaa.Pure
