/- FreeOf: of a nest, the whole table less the cells of its masks: one text takes the union off the whole, the other one mask after the other. -/
import Derived.Test.YtlcobdefieimmaaXFnExactFreeOfx2
namespace Go.Proofs.Ytlcobdefieimmaa.Pure
open Go.RowKit Go.Proofs.Ytlcobdefieimmaa.XFnExactFreeOf Go.Proofs.YtlcobdefieimmaaW.PrintWords Go.Proofs.YtlcobdefieimmaaW.PrintLast
set_option linter.unusedVariables false
set_option linter.unusedSimpArgs false
theorem wf64 {x : Int} (h : (Lit.int .i64 x).wf = true) : -9223372036854775808 ≤ x ∧ x ≤ 9223372036854775807 := by
  simp only [Lit.wf, IntKind.min, IntKind.max, IntKind.signed, IntKind.bits, Bool.and_eq_true, decide_eq_true_eq, if_true] at h
  omega
theorem w64 {x : Int} (h0 : -9223372036854775808 ≤ x) (h1 : x ≤ 9223372036854775807) : wrap64 x = x := by
  unfold wrap64
  omega
theorem succ_of {d k : Nat} (h : d < k) : ∃ m, k = m + 1 := ⟨k - 1, by omega⟩
theorem rd_nat (l : List Int) (i : Nat) : rd l (i : Int) = l.getD i 0 := by simp [rd]
theorem rd_get (l : List Int) (i : Nat) (h : i < l.length) : rd l (i : Int) = l[i] := by simp [rd, List.getD_eq_getElem?_getD, h]
theorem w1 {i : Nat} (h : i ≤ 140737488355328) : wrap64 ((i : Int) + 1) = ((i + 1 : Nat) : Int) := by
  unfold wrap64
  omega
theorem lt_t {i n : Nat} (h : i < n) : ((i : Int) < (n : Int)) = True := eq_true (by omega)
theorem lt_f {i n : Nat} (h : n ≤ i) : ((i : Int) < (n : Int)) = False := eq_false (by omega)
theorem nn_t (i : Nat) : (0 ≤ (i : Int)) = True := eq_true (by omega)
theorem w64n (n : Nat) (h : n ≤ 9223372036854775807) : wrap64 (n : Int) = (n : Int) := w64 (by omega) (by omega)
theorem w64sub (a b c : Nat) (ha : a ≤ 9223372036854775807) (h : a = b + c) : wrap64 ((a : Int) - (b : Int)) = (c : Int) := by
  rw [w64 (by omega) (by omega)]
  omega

theorem toIntS_l (l : List Int) (hl : l.length ≤ 35184372088832) (d : Nat) : ∀ (k : Nat) (ys : List Int) (i : Nat), l.length - i = d → i ≤ l.length → ys.length = l.length → ys.take i = l.take i → d < k → laws_toIntS.l0 k l ys (i : Int) = some l := by
  induction d with
  | zero =>
    intro k ys i hd hi hy ht hk
    obtain ⟨k, rfl⟩ := succ_of hk
    simp only [laws_toIntS.l0]
    rw [if_neg (by omega)]
    have : i = l.length := by omega
    subst this
    rw [List.take_length, ← hy, List.take_length] at ht
    rw [ht]
  | succ d ih =>
    intro k ys i hd hi hy ht hk
    obtain ⟨k, rfl⟩ := succ_of hk
    simp only [laws_toIntS.l0]
    rw [if_pos (by omega), if_pos (by omega), if_pos (by omega), w1 (by omega), rd_get l i (by omega)]
    refine ih k _ (i + 1) (by omega) (by omega) (by simp [hy]) ?_ (by omega)
    rw [Int.toNat_natCast, List.take_add_one, List.take_add_one, List.take_set_of_le (Nat.le_refl _), ht]
    simp [hy, show i < l.length by omega]
theorem toIntS (l : List Int) (hl : l.length ≤ 35184372088832) (k : Nat) (hk : l.length < k) : laws_toIntS.f k l = some l := by
  unfold laws_toIntS.f
  rw [if_pos (by omega), if_pos (by omega)]
  exact toIntS_l l hl l.length k _ 0 (by omega) (by omega) (by simp) rfl hk
theorem eqIntS_l (l m : List Int) (hl : l.length ≤ 35184372088832) (he : l.length = m.length) (d : Nat) : ∀ (k : Nat) (i : Nat), l.length - i = d → i ≤ l.length → d < k → laws_eqIntS.l0 k l m (i : Int) = some (decide (l.drop i = m.drop i)) := by
  induction d with
  | zero =>
    intro k i hd hi hk
    obtain ⟨k, rfl⟩ := succ_of hk
    simp only [laws_eqIntS.l0]
    rw [if_neg (by omega), List.drop_of_length_le (by omega), List.drop_of_length_le (by omega)]
    simp
  | succ d ih =>
    intro k i hd hi hk
    obtain ⟨k, rfl⟩ := succ_of hk
    simp only [laws_eqIntS.l0]
    rw [if_pos (by omega), if_pos (by omega), if_pos (by omega), w1 (by omega), rd_get l i (by omega), rd_get m i (by omega), ih k (i + 1) (by omega) (by omega) (by omega)]
    have h1 := List.drop_eq_getElem_cons (show i < l.length by omega)
    have h2 := List.drop_eq_getElem_cons (show i < m.length by omega)
    by_cases e : l[i]'(by omega) = m[i]'(by omega)
    · rw [if_pos e, h1, h2]
      simp only [List.cons.injEq, e, true_and]
    · rw [if_neg e, h1, h2]
      simp only [List.cons.injEq, e, false_and, decide_false]
theorem eqIntS (l m : List Int) (hl : l.length ≤ 35184372088832) (k : Nat) (hk : l.length < k) : laws_eqIntS.f k l m = some (decide (l = m)) := by
  unfold laws_eqIntS.f
  by_cases e : l.length = m.length
  · rw [if_pos (by omega)]
    have := eqIntS_l l m hl e l.length k 0 (by omega) (by omega) hk
    simpa using this
  · rw [if_neg (by omega)]
    have : l ≠ m := fun h => e (by rw [h])
    simp [this]

theorem wrap_i64 (n : Int) : IntKind.i64.wrap n = wrap64 n := by
  simp only [IntKind.wrap, IntKind.bits, IntKind.signed, wrap64, Bool.true_and, decide_eq_true_eq, ge_iff_le]
  split <;> omega
theorem ofInt_i64 (a : Nat) (ha : a < 18446744073709551616) : (BitVec.ofInt 64 (a : Int)).toNat = a := by
  rw [BitVec.ofInt_natCast, BitVec.toNat_ofNat]; exact Nat.mod_eq_of_lt (by omega)
theorem i64_and (a b : Nat) (ha : a < 9223372036854775808) (hb : b < 9223372036854775808) : Go.bits .and .i64 (a : Int) (b : Int) = ((a &&& b : Nat) : Int) := by
  have hx : a &&& b < 2 ^ 63 := Nat.and_lt_two_pow _ (by omega)
  show IntKind.i64.wrap ((BitVec.ofInt 64 (a : Int) &&& BitVec.ofInt 64 (b : Int)).toNat : Int) = _
  rw [BitVec.toNat_and, ofInt_i64 a (by omega), ofInt_i64 b (by omega), wrap_i64, w64 (by omega) (by omega)]
theorem i64_or (a b : Nat) (ha : a < 9223372036854775808) (hb : b < 9223372036854775808) : Go.bits .or .i64 (a : Int) (b : Int) = ((a ||| b : Nat) : Int) := by
  have hx : a ||| b < 2 ^ 63 := Nat.or_lt_two_pow (by omega) (by omega)
  show IntKind.i64.wrap ((BitVec.ofInt 64 (a : Int) ||| BitVec.ofInt 64 (b : Int)).toNat : Int) = _
  rw [BitVec.toNat_or, ofInt_i64 a (by omega), ofInt_i64 b (by omega), wrap_i64, w64 (by omega) (by omega)]
/-- a &^ b -/
def andn (a b : Nat) : Nat := a &&& (18446744073709551615 - b)
theorem i64_andNot (a b : Nat) (ha : a < 9223372036854775808) (hb : b < 9223372036854775808) : Go.bits .andNot .i64 (a : Int) (b : Int) = ((andn a b : Nat) : Int) := by
  have hx : andn a b ≤ a := Nat.and_le_left
  show IntKind.i64.wrap ((BitVec.ofInt 64 (a : Int) &&& ~~~BitVec.ofInt 64 (b : Int)).toNat : Int) = _
  rw [BitVec.toNat_and, BitVec.toNat_not, ofInt_i64 a (by omega), ofInt_i64 b (by omega), wrap_i64]
  have e : 2 ^ 64 - 1 - b = 18446744073709551615 - b := by omega
  rw [e, w64]
  · rfl
  · omega
  · have : a &&& (18446744073709551615 - b) ≤ a := Nat.and_le_left
    omega
theorem testBit_andn (a b i : Nat) (ha : a < 18446744073709551616) (hb : b < 18446744073709551616) : (andn a b).testBit i = (a.testBit i && !b.testBit i) := by
  unfold andn
  rw [Nat.testBit_and]
  have := Nat.testBit_two_pow_sub_succ (n := 64) (x := b) (by omega) i
  rw [show (18446744073709551615 - b) = 2 ^ 64 - (b + 1) by omega, this]
  by_cases h : i < 64
  · simp [h]
  · have : a.testBit i = false := Nat.testBit_lt_two_pow (Nat.lt_of_lt_of_le ha (by rw [show 18446744073709551616 = 2 ^ 64 by rfl]; exact Nat.pow_le_pow_right (by omega) (by omega)))
    simp [this]
theorem shl_one (n : Nat) (hn : n ≤ 62) : shl .i64 1 (n : Int) = ((2 ^ n : Nat) : Int) := by
  have h1 : (2 : Nat) ^ n ≤ 2 ^ 62 := Nat.pow_le_pow_right (by omega) hn
  unfold shl
  rw [Int.toNat_natCast, show IntKind.i64.bits = 64 from rfl, Nat.min_eq_left (by omega), wrap_i64, w64]
  · simp
  · have : (0 : Int) ≤ 1 * 2 ^ n := by rw [Int.one_mul]; exact Int.pow_nonneg (by omega)
    omega
  · have : (1 * 2 ^ n : Int) = ((2 ^ n : Nat) : Int) := by simp
    rw [this]
    omega

def tab (w h : Int) : Bool := decide (1 ≤ w ∧ w ≤ 6 ∧ 1 ≤ h ∧ h ≤ 6)
def shapeOk (w h m : Int) : Bool := tab w h && decide (0 ≤ m ∧ m < ((2 ^ (w * h).toNat : Nat) : Int))
theorem wh_le {w h : Int} (ht : tab w h = true) : 1 ≤ w * h ∧ w * h ≤ 36 := by
  simp only [tab, decide_eq_true_eq] at ht
  obtain ⟨h1, h2, h3, h4⟩ := ht
  constructor
  · have := Int.mul_le_mul h1 h3 (by omega) (by omega)
    omega
  · have := Int.mul_le_mul h2 h4 (by omega) (by omega)
    omega
theorem within_f (a b c : Int) : impl_within.f a b c = some (decide (b ≤ a ∧ a ≤ c)) := by
  unfold impl_within.f
  by_cases h : a ≥ b
  · rw [if_pos h]; simp [show b ≤ a from h]
  · rw [if_neg h]; simp [show ¬ b ≤ a from h]
theorem l01In_f (a b c : Int) : spec_l01In.f a b c = some (decide (b ≤ a ∧ a ≤ c)) := by
  unfold spec_l01In.f
  by_cases h : a ≥ b
  · rw [if_pos h]; simp [show b ≤ a from h]
  · rw [if_neg h]; simp [show ¬ b ≤ a from h]
theorem isTable_f (w h : Int) : impl_isTable.f w h = some (tab w h) := by
  unfold impl_isTable.f tab
  simp only [within_f, Option.bind_some]
  by_cases h1 : 1 ≤ w ∧ w ≤ 6
  · simp [h1]
  · simp [h1]
    omega
theorem pow_small {w h : Int} (ht : tab w h = true) : wrap64 (w * h) = w * h ∧ shl .i64 1 (w * h) = ((2 ^ (w * h).toNat : Nat) : Int) ∧ (2 : Nat) ^ (w * h).toNat ≤ 68719476736 ∧ 1 ≤ (2 : Nat) ^ (w * h).toNat := by
  have hb := wh_le ht
  refine ⟨w64 (by omega) (by omega), ?_, ?_, Nat.one_le_two_pow⟩
  · have := shl_one (w * h).toNat (by omega)
    rwa [Int.toNat_of_nonneg (by omega)] at this
  · have : (2 : Nat) ^ (w * h).toNat ≤ 2 ^ 36 := Nat.pow_le_pow_right (by omega) (by omega)
    simpa using this
theorem ShapeOk_f (w h m : Int) : impl_ShapeOk.f w h m = some (shapeOk w h m) := by
  unfold impl_ShapeOk.f
  simp only [isTable_f, Option.bind_some]
  by_cases ht : tab w h = true
  · obtain ⟨e1, e2, e3, e4⟩ := pow_small ht
    have hb := wh_le ht
    simp only [ht, if_true, shapeOk, Bool.true_and, e1, e2]
    by_cases h1 : m ≥ 0
    · rw [if_pos h1, if_pos (by omega)]
      simp [show 0 ≤ m from h1]
    · rw [if_neg h1]
      simp [show ¬ 0 ≤ m from h1]
  · simp [ht, shapeOk]
theorem spec_ShapeOk_f (w h m : Int) : spec_ShapeOk.f w h m = some (shapeOk w h m) := by
  unfold spec_ShapeOk.f
  simp only [l01In_f, Option.bind_some]
  by_cases ht : tab w h = true
  · obtain ⟨e1, e2, e3, e4⟩ := pow_small ht
    have hb := wh_le ht
    have ht' := ht
    simp only [tab, decide_eq_true_eq] at ht'
    simp only [ht'.1, ht'.2.1, ht'.2.2.1, ht'.2.2.2, and_true, decide_true, if_true, e1, e2]
    rw [if_pos (by omega), w64 (by omega) (by omega)]
    simp only [shapeOk, ht, Bool.true_and]
    congr 1
    rw [Bool.eq_iff_iff]
    simp only [decide_eq_true_eq]
    omega
  · have : shapeOk w h m = false := by simp [shapeOk, ht]
    rw [this]
    simp only [tab, decide_eq_true_eq] at ht
    by_cases h1 : 1 ≤ w ∧ w ≤ 6
    · have h2 : ¬ (1 ≤ h ∧ h ≤ 6) := by omega
      simp [h1, h2]
    · simp [h1]
/-- The masks of a nest, the cells in 'used' being taken: each a shape, no cell taken twice. -/
def nestOk (w h : Int) : Int → List Int → Bool
  | _, [] => true
  | used, m :: r => shapeOk w h m && decide (Go.bits .and .i64 used m = 0) && nestOk w h (Go.bits .or .i64 used m) r
theorem drop_at {l : List Int} {i : Nat} (h : i < l.length) : l.drop i = rd l (i : Int) :: l.drop (i + 1) := by
  rw [rd_get l i h]
  exact List.drop_eq_getElem_cons h
theorem impl_NestOk_l (w h : Int) (l : List Int) (hl : l.length ≤ 12) (d : Nat) : ∀ (k : Nat) (used : Int) (i : Nat), l.length - i = d → i ≤ l.length → d < k → impl_NestOk.l0 k w h used l (l.length : Int) (i : Int) = some (nestOk w h used (l.drop i)) := by
  induction d with
  | zero =>
    intro k used i hd hi hk
    obtain ⟨k, rfl⟩ := succ_of hk
    simp only [impl_NestOk.l0, lt_f (show l.length ≤ i by omega), if_false, List.drop_of_length_le (show l.length ≤ i by omega), nestOk]
  | succ d ih =>
    intro k used i hd hi hk
    obtain ⟨k, rfl⟩ := succ_of hk
    have hlt : i < l.length := by omega
    simp only [impl_NestOk.l0, lt_t hlt, nn_t, if_true, w1 (show i ≤ 140737488355328 by omega), ShapeOk_f, Option.bind_some, drop_at hlt, nestOk, ih k _ (i + 1) (by omega) (by omega) (by omega)]
    by_cases h1 : shapeOk w h (rd l (i : Int)) = true
    · by_cases h2 : Go.bits .and .i64 used (rd l (i : Int)) = 0
      · simp [h1, h2]
      · simp [h1, h2]
    · simp [h1]
theorem spec_NestOk_l (w h : Int) (l : List Int) (hl : l.length ≤ 12) (d : Nat) : ∀ (k : Nat) (used : Int) (i : Nat), l.length - i = d → i ≤ l.length → d < k → spec_NestOk.l0 k w h used l (l.length : Int) (i : Int) = some (tab w h && nestOk w h used (l.drop i)) := by
  induction d with
  | zero =>
    intro k used i hd hi hk
    obtain ⟨k, rfl⟩ := succ_of hk
    simp only [spec_NestOk.l0, lt_f (show l.length ≤ i by omega), if_false, List.drop_of_length_le (show l.length ≤ i by omega), nestOk, spec_ShapeOk_f, Option.bind_some, shapeOk]
    by_cases ht : tab w h = true
    · have := (pow_small ht).2.2.2
      have h0 : decide ((0 : Int) ≤ 0 ∧ (0 : Int) < ((2 ^ (w * h).toNat : Nat) : Int)) = true := by rw [decide_eq_true_eq]; omega
      rw [h0]
    · simp [ht]
  | succ d ih =>
    intro k used i hd hi hk
    obtain ⟨k, rfl⟩ := succ_of hk
    have hlt : i < l.length := by omega
    simp only [spec_NestOk.l0, lt_t hlt, nn_t, if_true, w1 (show i ≤ 140737488355328 by omega), spec_ShapeOk_f, Option.bind_some, drop_at hlt, nestOk, ih k _ (i + 1) (by omega) (by omega) (by omega)]
    by_cases h1 : shapeOk w h (rd l (i : Int)) = true
    · by_cases h2 : Go.bits .and .i64 used (rd l (i : Int)) = 0
      · simp [h1, h2]
      · simp [h1, h2]
    · simp [h1]
def nestOk0 (w h : Int) (l : List Int) : Bool := tab w h && decide (l.length ≤ 12) && nestOk w h 0 l
theorem impl_NestOk_f (w h : Int) (l : List Int) (k : Nat) (hk : 14 < k) : impl_NestOk.f k w h l = some (nestOk0 w h l) := by
  obtain ⟨k, rfl⟩ := succ_of hk
  unfold impl_NestOk.f nestOk0
  simp only [isTable_f, Option.bind_some]
  by_cases ht : tab w h = true
  · simp only [ht, if_true, impl_NestOk.j0, Bool.true_and]
    by_cases hl : l.length ≤ 12
    · have := impl_NestOk_l w h l hl l.length k 0 0 (by omega) (by omega) (by omega)
      simp only [Int.ofNat_zero, List.drop_zero] at this
      simp [show ¬ (l.length : Int) > 12 by omega, hl]
      exact this
    · simp [show (l.length : Int) > 12 by omega, hl]
  · simp [ht, impl_NestOk.j0]
theorem spec_NestOk_f (w h : Int) (l : List Int) (k : Nat) (hk : 14 < k) : spec_NestOk.f k w h l = some (nestOk0 w h l) := by
  unfold spec_NestOk.f nestOk0
  by_cases hl : l.length ≤ 12
  · rw [if_neg (by omega)]
    have := spec_NestOk_l w h l hl l.length k 0 0 (by omega) (by omega) (by omega)
    simp only [Int.ofNat_zero, List.drop_zero] at this
    simp [hl]
    exact this
  · rw [if_pos (by omega)]
    simp [hl]

def orAll : Nat → List Nat → Nat
  | u, [] => u
  | u, m :: r => orAll (u ||| m) r
theorem spec_used_l (l : List Nat) (hl : l.length ≤ 12) (hs : ∀ m ∈ l, m < 68719476736) (d : Nat) : ∀ (k u i : Nat), l.length - i = d → i ≤ l.length → d < k → u < 68719476736 → spec_l17Used.l0 k (u : Int) (l.map Int.ofNat) (l.length : Int) (i : Int) = some ((orAll u (l.drop i) : Nat) : Int) := by
  induction d with
  | zero =>
    intro k u i hd hi hk hu
    obtain ⟨k, rfl⟩ := succ_of hk
    simp only [spec_l17Used.l0, lt_f (show l.length ≤ i by omega), if_false, List.drop_of_length_le (show l.length ≤ i by omega), orAll]
  | succ d ih =>
    intro k u i hd hi hk hu
    obtain ⟨k, rfl⟩ := succ_of hk
    have hlt : i < l.length := by omega
    have hlt2 : i < (l.map Int.ofNat).length := by rw [List.length_map]; exact hlt
    have hm := hs (l[i]) (List.getElem_mem hlt)
    have hor : u ||| l[i] < 2 ^ 36 := Nat.or_lt_two_pow (by omega) (by omega)
    simp only [spec_l17Used.l0, lt_t hlt, lt_t hlt2, nn_t, if_true, w1 (show i ≤ 140737488355328 by omega)]
    rw [rd_get _ _ hlt2, List.getElem_map, Int.ofNat_eq_natCast, i64_or _ _ (by omega) (by omega), ih k _ (i + 1) (by omega) (by omega) (by omega) (by omega), List.drop_eq_getElem_cons hlt, orAll]
def offAll : Nat → List Nat → Nat
  | f, [] => f
  | f, m :: r => offAll (andn f m) r
theorem impl_free_l (l : List Nat) (hl : l.length ≤ 12) (hs : ∀ m ∈ l, m < 68719476736) (d : Nat) : ∀ (k f i : Nat), l.length - i = d → i ≤ l.length → d < k → f < 68719476736 → impl_FreeOf.l0 k (f : Int) (l.map Int.ofNat) (l.length : Int) (i : Int) = some ((offAll f (l.drop i) : Nat) : Int) := by
  induction d with
  | zero =>
    intro k f i hd hi hk hf
    obtain ⟨k, rfl⟩ := succ_of hk
    simp only [impl_FreeOf.l0, lt_f (show l.length ≤ i by omega), if_false, List.drop_of_length_le (show l.length ≤ i by omega), offAll]
  | succ d ih =>
    intro k f i hd hi hk hf
    obtain ⟨k, rfl⟩ := succ_of hk
    have hlt : i < l.length := by omega
    have hlt2 : i < (l.map Int.ofNat).length := by rw [List.length_map]; exact hlt
    have hm := hs (l[i]) (List.getElem_mem hlt)
    have hle : andn f l[i] ≤ f := Nat.and_le_left
    simp only [impl_FreeOf.l0, lt_t hlt, lt_t hlt2, nn_t, if_true, w1 (show i ≤ 140737488355328 by omega)]
    rw [rd_get _ _ hlt2, List.getElem_map, Int.ofNat_eq_natCast, i64_andNot _ _ (by omega) (by omega), ih k _ (i + 1) (by omega) (by omega) (by omega) (by omega), List.drop_eq_getElem_cons hlt, offAll]
theorem andn_full (n u m : Nat) (hn : n ≤ 36) (hu : u < 2 ^ n) (hm : m < 2 ^ n) : andn (2 ^ n - (u + 1)) m = 2 ^ n - ((u ||| m) + 1) := by
  have hp : (2 : Nat) ^ n ≤ 2 ^ 36 := Nat.pow_le_pow_right (by omega) hn
  have hor : u ||| m < 2 ^ n := Nat.or_lt_two_pow hu hm
  refine Nat.eq_of_testBit_eq fun i => ?_
  rw [testBit_andn _ _ _ (by omega) (by omega), Nat.testBit_two_pow_sub_succ hu, Nat.testBit_two_pow_sub_succ hor, Nat.testBit_or]
  cases decide (i < n) <;> cases u.testBit i <;> cases m.testBit i <;> rfl
theorem off_or (n : Nat) (hn : n ≤ 36) (l : List Nat) (hs : ∀ m ∈ l, m < 2 ^ n) : ∀ u, u < 2 ^ n → offAll (2 ^ n - (u + 1)) l = 2 ^ n - (orAll u l + 1) ∧ orAll u l < 2 ^ n := by
  induction l with
  | nil => intro u hu; exact ⟨rfl, hu⟩
  | cons m r ih =>
    intro u hu
    have hm := hs m (by simp)
    simp only [offAll, orAll]
    rw [andn_full n u m hn hu hm]
    exact ih (fun x hx => hs x (by simp [hx])) _ (Nat.or_lt_two_pow hu hm)
theorem nestOk_shapes (w h : Int) (l : List Int) : ∀ u, nestOk w h u l = true → ∀ m ∈ l, shapeOk w h m = true := by
  induction l with
  | nil => intro u _ m hm; simp at hm
  | cons a r ih =>
    intro u hu m hm
    simp only [nestOk, Bool.and_eq_true] at hu
    rcases List.mem_cons.mp hm with rfl | hm
    · exact hu.1.1
    · exact ih _ hu.2 m hm
theorem sub_split (p A B C : Nat) (hA : p - (0 + 1) = A) (hC : p - (B + 1) = C) (h6 : B < p) : A = B + C := by omega
theorem FnExactFreeOf : laws_FnExactFreeOf.Pure := by
  intro w h l _ _ _ _ _
  refine ⟨l.length + 15, ?_⟩
  unfold laws_FnExactFreeOf.f
  by_cases hl : (l.length : Int) > 1048576
  · rw [if_pos hl]
  · rw [if_neg hl, toIntS l (by omega) _ (by omega)]
    simp only [Option.bind_some, spec_FreeOf.f, impl_FreeOf.f, spec_NestOk_f w h l _ (show 14 < l.length + 15 by omega), impl_NestOk_f w h l _ (show 14 < l.length + 15 by omega), eqIntS l l (by omega) _ (show l.length < l.length + 15 by omega)]
    by_cases hn : nestOk0 w h l = true
    · have hn' := hn
      simp only [nestOk0, Bool.and_eq_true, decide_eq_true_eq] at hn
      obtain ⟨⟨ht, h12⟩, hok⟩ := hn
      obtain ⟨e1, e2, e3, e4⟩ := pow_small ht
      have hb := wh_le ht
      have hsh := nestOk_shapes w h l 0 hok
      obtain ⟨ns, rfl⟩ : ∃ ns : List Nat, l = ns.map Int.ofNat := by
        refine ⟨l.map Int.toNat, ?_⟩
        rw [List.map_map]
        refine Eq.trans (List.map_id l).symm (List.map_congr_left fun x hx => ?_)
        have := hsh x hx
        simp only [shapeOk, Bool.and_eq_true, decide_eq_true_eq] at this
        simp only [Function.comp, Int.ofNat_eq_natCast, id_eq]
        omega
      have hs : ∀ m ∈ ns, m < 2 ^ (w * h).toNat := by
        intro m hm
        have := hsh (Int.ofNat m) (List.mem_map.mpr ⟨m, hm, rfl⟩)
        simp only [shapeOk, Bool.and_eq_true, decide_eq_true_eq, Int.ofNat_eq_natCast] at this
        omega
      have hs2 : ∀ m ∈ ns, m < 68719476736 := fun m hm => by have := hs m hm; omega
      rw [List.length_map] at h12
      have h3 := spec_used_l ns h12 hs2 ns.length (ns.length + 15) 0 0 (by omega) (by omega) (by omega) (by omega)
      have hfull : ((2 ^ (w * h).toNat : Nat) : Int) - 1 = ((2 ^ (w * h).toNat - (0 + 1) : Nat) : Int) := by omega
      have h4 := impl_free_l ns h12 hs2 ns.length (ns.length + 15) (2 ^ (w * h).toNat - (0 + 1)) 0 (by omega) (by omega) (by omega) (by omega)
      obtain ⟨h5, h6⟩ := off_or (w * h).toNat (by omega) ns hs 0 (by omega)
      simp only [List.drop_zero, Int.ofNat_zero] at h3 h4
      rw [h5] at h4
      clear hs hsh hok
      generalize 2 ^ (w * h).toNat = p at *
      simp only [hn', if_true, e1, e2, w64 (show -9223372036854775808 ≤ ((p : Nat) : Int) - 1 by omega) (by omega), hfull, spec_l17Used.f, List.length_map]
      rw [if_pos (by omega), if_pos (by omega)]
      obtain ⟨A, hA⟩ : ∃ A, p - (0 + 1) = A := ⟨_, rfl⟩
      obtain ⟨B, hB⟩ : ∃ B, orAll 0 ns = B := ⟨_, rfl⟩
      obtain ⟨C, hC⟩ : ∃ C, p - (B + 1) = C := ⟨_, rfl⟩
      rw [hA, hB, hC] at h4
      rw [hB] at h3 h6
      rw [hA]
      have e5 : wrap64 (A : Int) = (A : Int) := w64n A (by omega)
      have k2 : A = B + C := sub_split p A B C hA hC h6
      have k1 : A ≤ 68719476736 := by rw [← hA]; exact Nat.le_trans (Nat.sub_le _ _) e3
      have e6 : wrap64 ((A : Int) - (B : Int)) = (C : Int) := w64sub A B C (Nat.le_trans k1 (by decide)) k2
      rw [e5, h3, h4]
      simp only [Option.bind_some, e6]
      simp
    · simp [hn]

end Go.Proofs.Ytlcobdefieimmaa.Pure
