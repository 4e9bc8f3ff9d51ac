/- CountNests: nests are counted up to 5000, one by one or as the length of so many. -/
import Derived.Test.YtpnngdljfnhnfaaXFnExactCountNestsx9
namespace Go.Proofs.Ytpnngdljfnhnfaa.Pure
open Go.RowKit Go.Proofs.Ytpnngdljfnhnfaa.XFnExactCountNests Go.Proofs.YtpnngdljfnhnfaaW.PrintWords Go.Proofs.YtpnngdljfnhnfaaW.PrintLast
set_option linter.unusedVariables false
set_option linter.unusedSimpArgs false
theorem wf64 {x : Int} (h : (Lit.int .i64 x).wf = true) : -9223372036854775808 ≤ x ∧ x ≤ 9223372036854775807 := by
  simp only [Lit.wf, IntKind.min, IntKind.max, IntKind.signed, IntKind.bits, Bool.and_eq_true, decide_eq_true_eq, if_true] at h
  omega
theorem w64 {x : Int} (h0 : -9223372036854775808 ≤ x) (h1 : x ≤ 9223372036854775807) : wrap64 x = x := by
  unfold wrap64
  omega
theorem succ_of {d k : Nat} (h : d < k) : ∃ m, k = m + 1 := ⟨k - 1, by omega⟩
theorem rd_nat (l : List Int) (i : Nat) : rd l (i : Int) = l.getD i 0 := by simp [rd]
theorem rd_get (l : List Int) (i : Nat) (h : i < l.length) : rd l (i : Int) = l[i] := by simp [rd, List.getD_eq_getElem?_getD, h]
theorem w1 {i : Nat} (h : i ≤ 140737488355328) : wrap64 ((i : Int) + 1) = ((i + 1 : Nat) : Int) := by
  unfold wrap64
  omega
theorem lt_t {i n : Nat} (h : i < n) : ((i : Int) < (n : Int)) = True := eq_true (by omega)
theorem lt_f {i n : Nat} (h : n ≤ i) : ((i : Int) < (n : Int)) = False := eq_false (by omega)
theorem nn_t (i : Nat) : (0 ≤ (i : Int)) = True := eq_true (by omega)
theorem w64n (n : Nat) (h : n ≤ 9223372036854775807) : wrap64 (n : Int) = (n : Int) := w64 (by omega) (by omega)
theorem w64sub (a b c : Nat) (ha : a ≤ 9223372036854775807) (h : a = b + c) : wrap64 ((a : Int) - (b : Int)) = (c : Int) := by
  rw [w64 (by omega) (by omega)]
  omega

theorem wrap_i64 (n : Int) : IntKind.i64.wrap n = wrap64 n := by
  simp only [IntKind.wrap, IntKind.bits, IntKind.signed, wrap64, Bool.true_and, decide_eq_true_eq, ge_iff_le]
  split <;> omega
theorem ofInt_i64 (a : Nat) (ha : a < 18446744073709551616) : (BitVec.ofInt 64 (a : Int)).toNat = a := by
  rw [BitVec.ofInt_natCast, BitVec.toNat_ofNat]; exact Nat.mod_eq_of_lt (by omega)
theorem i64_and (a b : Nat) (ha : a < 9223372036854775808) (hb : b < 9223372036854775808) : Go.bits .and .i64 (a : Int) (b : Int) = ((a &&& b : Nat) : Int) := by
  have hx : a &&& b < 2 ^ 63 := Nat.and_lt_two_pow _ (by omega)
  show IntKind.i64.wrap ((BitVec.ofInt 64 (a : Int) &&& BitVec.ofInt 64 (b : Int)).toNat : Int) = _
  rw [BitVec.toNat_and, ofInt_i64 a (by omega), ofInt_i64 b (by omega), wrap_i64, w64 (by omega) (by omega)]
theorem i64_or (a b : Nat) (ha : a < 9223372036854775808) (hb : b < 9223372036854775808) : Go.bits .or .i64 (a : Int) (b : Int) = ((a ||| b : Nat) : Int) := by
  have hx : a ||| b < 2 ^ 63 := Nat.or_lt_two_pow (by omega) (by omega)
  show IntKind.i64.wrap ((BitVec.ofInt 64 (a : Int) ||| BitVec.ofInt 64 (b : Int)).toNat : Int) = _
  rw [BitVec.toNat_or, ofInt_i64 a (by omega), ofInt_i64 b (by omega), wrap_i64, w64 (by omega) (by omega)]
/-- a &^ b -/
def andn (a b : Nat) : Nat := a &&& (18446744073709551615 - b)
theorem i64_andNot (a b : Nat) (ha : a < 9223372036854775808) (hb : b < 9223372036854775808) : Go.bits .andNot .i64 (a : Int) (b : Int) = ((andn a b : Nat) : Int) := by
  have hx : andn a b ≤ a := Nat.and_le_left
  show IntKind.i64.wrap ((BitVec.ofInt 64 (a : Int) &&& ~~~BitVec.ofInt 64 (b : Int)).toNat : Int) = _
  rw [BitVec.toNat_and, BitVec.toNat_not, ofInt_i64 a (by omega), ofInt_i64 b (by omega), wrap_i64]
  have e : 2 ^ 64 - 1 - b = 18446744073709551615 - b := by omega
  rw [e, w64]
  · rfl
  · omega
  · have : a &&& (18446744073709551615 - b) ≤ a := Nat.and_le_left
    omega
theorem testBit_andn (a b i : Nat) (ha : a < 18446744073709551616) (hb : b < 18446744073709551616) : (andn a b).testBit i = (a.testBit i && !b.testBit i) := by
  unfold andn
  rw [Nat.testBit_and]
  have := Nat.testBit_two_pow_sub_succ (n := 64) (x := b) (by omega) i
  rw [show (18446744073709551615 - b) = 2 ^ 64 - (b + 1) by omega, this]
  by_cases h : i < 64
  · simp [h]
  · have : a.testBit i = false := Nat.testBit_lt_two_pow (Nat.lt_of_lt_of_le ha (by rw [show 18446744073709551616 = 2 ^ 64 by rfl]; exact Nat.pow_le_pow_right (by omega) (by omega)))
    simp [this]
theorem shl_one (n : Nat) (hn : n ≤ 62) : shl .i64 1 (n : Int) = ((2 ^ n : Nat) : Int) := by
  have h1 : (2 : Nat) ^ n ≤ 2 ^ 62 := Nat.pow_le_pow_right (by omega) hn
  unfold shl
  rw [Int.toNat_natCast, show IntKind.i64.bits = 64 from rfl, Nat.min_eq_left (by omega), wrap_i64, w64]
  · simp
  · have : (0 : Int) ≤ 1 * 2 ^ n := by rw [Int.one_mul]; exact Int.pow_nonneg (by omega)
    omega
  · have : (1 * 2 ^ n : Int) = ((2 ^ n : Nat) : Int) := by simp
    rw [this]
    omega

theorem toIntS_l (l : List Int) (hl : l.length ≤ 35184372088832) (d : Nat) : ∀ (k : Nat) (ys : List Int) (i : Nat), l.length - i = d → i ≤ l.length → ys.length = l.length → ys.take i = l.take i → d < k → laws_toIntS.l0 k l ys (i : Int) = some l := by
  induction d with
  | zero =>
    intro k ys i hd hi hy ht hk
    obtain ⟨k, rfl⟩ := succ_of hk
    simp only [laws_toIntS.l0]
    rw [if_neg (by omega)]
    have : i = l.length := by omega
    subst this
    rw [List.take_length, ← hy, List.take_length] at ht
    rw [ht]
  | succ d ih =>
    intro k ys i hd hi hy ht hk
    obtain ⟨k, rfl⟩ := succ_of hk
    simp only [laws_toIntS.l0]
    rw [if_pos (by omega), if_pos (by omega), if_pos (by omega), w1 (by omega), rd_get l i (by omega)]
    refine ih k _ (i + 1) (by omega) (by omega) (by simp [hy]) ?_ (by omega)
    rw [Int.toNat_natCast, List.take_add_one, List.take_add_one, List.take_set_of_le (Nat.le_refl _), ht]
    simp [hy, show i < l.length by omega]
theorem toIntS (l : List Int) (hl : l.length ≤ 35184372088832) (k : Nat) (hk : l.length < k) : laws_toIntS.f k l = some l := by
  unfold laws_toIntS.f
  rw [if_pos (by omega), if_pos (by omega)]
  exact toIntS_l l hl l.length k _ 0 (by omega) (by omega) (by simp) rfl hk
theorem eqIntS_l (l m : List Int) (hl : l.length ≤ 35184372088832) (he : l.length = m.length) (d : Nat) : ∀ (k : Nat) (i : Nat), l.length - i = d → i ≤ l.length → d < k → laws_eqIntS.l0 k l m (i : Int) = some (decide (l.drop i = m.drop i)) := by
  induction d with
  | zero =>
    intro k i hd hi hk
    obtain ⟨k, rfl⟩ := succ_of hk
    simp only [laws_eqIntS.l0]
    rw [if_neg (by omega), List.drop_of_length_le (by omega), List.drop_of_length_le (by omega)]
    simp
  | succ d ih =>
    intro k i hd hi hk
    obtain ⟨k, rfl⟩ := succ_of hk
    simp only [laws_eqIntS.l0]
    rw [if_pos (by omega), if_pos (by omega), if_pos (by omega), w1 (by omega), rd_get l i (by omega), rd_get m i (by omega), ih k (i + 1) (by omega) (by omega) (by omega)]
    have h1 := List.drop_eq_getElem_cons (show i < l.length by omega)
    have h2 := List.drop_eq_getElem_cons (show i < m.length by omega)
    by_cases e : l[i]'(by omega) = m[i]'(by omega)
    · rw [if_pos e, h1, h2]
      simp only [List.cons.injEq, e, true_and]
    · rw [if_neg e, h1, h2]
      simp only [List.cons.injEq, e, false_and, decide_false]
theorem eqIntS (l m : List Int) (hl : l.length ≤ 35184372088832) (k : Nat) (hk : l.length < k) : laws_eqIntS.f k l m = some (decide (l = m)) := by
  unfold laws_eqIntS.f
  by_cases e : l.length = m.length
  · rw [if_pos (by omega)]
    have := eqIntS_l l m hl e l.length k 0 (by omega) (by omega) hk
    simpa using this
  · rw [if_neg (by omega)]
    have : l ≠ m := fun h => e (by rw [h])
    simp [this]

def tab (w h : Int) : Bool := decide (1 ≤ w ∧ w ≤ 6 ∧ 1 ≤ h ∧ h ≤ 6)
def shapeOk (w h m : Int) : Bool := tab w h && decide (0 ≤ m ∧ m < ((2 ^ (w * h).toNat : Nat) : Int))
theorem wh_le {w h : Int} (ht : tab w h = true) : 1 ≤ w * h ∧ w * h ≤ 36 := by
  simp only [tab, decide_eq_true_eq] at ht
  obtain ⟨h1, h2, h3, h4⟩ := ht
  constructor
  · have := Int.mul_le_mul h1 h3 (by omega) (by omega)
    omega
  · have := Int.mul_le_mul h2 h4 (by omega) (by omega)
    omega
theorem within_f (a b c : Int) : impl_within.f a b c = some (decide (b ≤ a ∧ a ≤ c)) := by
  unfold impl_within.f
  by_cases h : a ≥ b
  · rw [if_pos h]; simp [show b ≤ a from h]
  · rw [if_neg h]; simp [show ¬ b ≤ a from h]
theorem l01In_f (a b c : Int) : spec_l01In.f a b c = some (decide (b ≤ a ∧ a ≤ c)) := by
  unfold spec_l01In.f
  by_cases h : a ≥ b
  · rw [if_pos h]; simp [show b ≤ a from h]
  · rw [if_neg h]; simp [show ¬ b ≤ a from h]
theorem isTable_f (w h : Int) : impl_isTable.f w h = some (tab w h) := by
  unfold impl_isTable.f tab
  simp only [within_f, Option.bind_some]
  by_cases h1 : 1 ≤ w ∧ w ≤ 6
  · simp [h1]
  · simp [h1]
    omega
theorem pow_small {w h : Int} (ht : tab w h = true) : wrap64 (w * h) = w * h ∧ shl .i64 1 (w * h) = ((2 ^ (w * h).toNat : Nat) : Int) ∧ (2 : Nat) ^ (w * h).toNat ≤ 68719476736 ∧ 1 ≤ (2 : Nat) ^ (w * h).toNat := by
  have hb := wh_le ht
  refine ⟨w64 (by omega) (by omega), ?_, ?_, Nat.one_le_two_pow⟩
  · have := shl_one (w * h).toNat (by omega)
    rwa [Int.toNat_of_nonneg (by omega)] at this
  · have : (2 : Nat) ^ (w * h).toNat ≤ 2 ^ 36 := Nat.pow_le_pow_right (by omega) (by omega)
    simpa using this
theorem ShapeOk_f (w h m : Int) : impl_ShapeOk.f w h m = some (shapeOk w h m) := by
  unfold impl_ShapeOk.f
  simp only [isTable_f, Option.bind_some]
  by_cases ht : tab w h = true
  · obtain ⟨e1, e2, e3, e4⟩ := pow_small ht
    have hb := wh_le ht
    simp only [ht, if_true, shapeOk, Bool.true_and, e1, e2]
    by_cases h1 : m ≥ 0
    · rw [if_pos h1, if_pos (by omega)]
      simp [show 0 ≤ m from h1]
    · rw [if_neg h1]
      simp [show ¬ 0 ≤ m from h1]
  · simp [ht, shapeOk]
theorem spec_ShapeOk_f (w h m : Int) : spec_ShapeOk.f w h m = some (shapeOk w h m) := by
  unfold spec_ShapeOk.f
  simp only [l01In_f, Option.bind_some]
  by_cases ht : tab w h = true
  · obtain ⟨e1, e2, e3, e4⟩ := pow_small ht
    have hb := wh_le ht
    have ht' := ht
    simp only [tab, decide_eq_true_eq] at ht'
    simp only [ht'.1, ht'.2.1, ht'.2.2.1, ht'.2.2.2, and_true, decide_true, if_true, e1, e2]
    rw [if_pos (by omega), w64 (by omega) (by omega)]
    simp only [shapeOk, ht, Bool.true_and]
    congr 1
    rw [Bool.eq_iff_iff]
    simp only [decide_eq_true_eq]
    omega
  · have : shapeOk w h m = false := by simp [shapeOk, ht]
    rw [this]
    simp only [tab, decide_eq_true_eq] at ht
    by_cases h1 : 1 ≤ w ∧ w ≤ 6
    · have h2 : ¬ (1 ≤ h ∧ h ≤ 6) := by omega
      simp [h1, h2]
    · simp [h1]

theorem tdiv_nn (a b : Nat) : Int.tdiv (a : Int) (b : Int) = ((a / b : Nat) : Int) := rfl
theorem tmod_nn (a b : Nat) : Int.tmod (a : Int) (b : Int) = ((a % b : Nat) : Int) := rfl
/-- A cell as a point. -/
def ptOf (w c : Nat) : S46 := ⟨((c % w : Nat) : Int), ((c / w : Nat) : Int)⟩
def cellsOf (N M : Nat) : List Nat := (List.range' 0 N).filter M.testBit
theorem shr_nat (M i : Nat) (hi : i ≤ 64) : shr .i64 (M : Int) (i : Int) = ((M / 2 ^ i : Nat) : Int) := by
  unfold shr
  rw [Int.toNat_natCast, show IntKind.i64.bits = 64 from rfl, Nat.min_eq_left hi]
  simp
theorem bit_nat (M i : Nat) (hM : M < 9223372036854775808) : Go.bits .and .i64 ((M / 2 ^ i : Nat) : Int) 1 = if M.testBit i = true then 1 else 0 := by
  have h1 : M / 2 ^ i ≤ M := Nat.div_le_self _ _
  have := i64_and (M / 2 ^ i) 1 (by omega) (by omega)
  rw [show ((1 : Nat) : Int) = 1 from rfl] at this
  rw [this, Nat.and_one_is_mod, Nat.testBit_eq_decide_div_mod_eq]
  have h2 := Nat.mod_two_eq_zero_or_one (M / 2 ^ i)
  rcases h2 with h2 | h2 <;> simp [h2]
theorem has_f (M i : Nat) (hM : M < 9223372036854775808) (hi : i ≤ 64) : impl_has.f (M : Int) (i : Int) = some (M.testBit i) := by
  unfold impl_has.f
  rw [if_pos (by omega), shr_nat M i hi, bit_nat M i hM]
  by_cases h : M.testBit i = true <;> simp [h]
theorem cells_l (w M N : Nat) (hw : 1 ≤ w) (hw6 : w ≤ 6) (hN : N ≤ 36) (hM : M < 9223372036854775808) (d : Nat) : ∀ (i : Nat) (acc : List S46), N - i = d → i ≤ N → acc.length ≤ i → Ev (fun k => impl_cells.l0 k (w : Int) (M : Int) acc (N : Int) (i : Int)) (acc ++ ((List.range' i d).filter M.testBit).map (ptOf w)) := by
  induction d with
  | zero =>
    intro i acc hd hi ha
    refine Ev.step (f := fun _ => some acc) (fun k => ?_) (by simpa using Ev.now acc)
    simp only [impl_cells.l0, lt_f (show N ≤ i by omega), if_false]
  | succ d ih =>
    intro i acc hd hi ha
    have hlt : i < N := by omega
    have hdw : i / w ≤ i := Nat.div_le_self _ _
    rw [List.range'_succ, List.filter_cons]
    by_cases hb : M.testBit i = true
    · rw [if_pos hb]
      have := ih (i + 1) (acc ++ [ptOf w i]) (by omega) (by omega) (by simp; omega)
      rw [List.append_assoc, List.singleton_append] at this
      refine Ev.step (f := fun k => impl_cells.l0 k (w : Int) (M : Int) (acc ++ [ptOf w i]) (N : Int) ((i + 1 : Nat) : Int)) (fun k => ?_) this
      simp only [impl_cells.l0, lt_t hlt, if_true, has_f M i hM (by omega), Option.bind_some, hb, w1 (show i ≤ 140737488355328 by omega), tdiv_nn, tmod_nn, w64n (i / w) (by omega)]
      rw [if_neg (by omega), if_pos (by omega)]
      rfl
    · rw [if_neg hb]
      refine Ev.step (f := fun k => impl_cells.l0 k (w : Int) (M : Int) acc (N : Int) ((i + 1 : Nat) : Int)) (fun k => ?_) (ih (i + 1) acc (by omega) (by omega) (by omega))
      simp only [impl_cells.l0, lt_t hlt, if_true, has_f M i hM (by omega), Option.bind_some, hb, w1 (show i ≤ 140737488355328 by omega), if_false, Bool.false_eq_true]
theorem cells_f (w h M : Nat) (hw : 1 ≤ w) (hw6 : w ≤ 6) (hh : h ≤ 6) (hM : M < 9223372036854775808) : Ev (fun k => impl_cells.f k (w : Int) (h : Int) (M : Int)) ((cellsOf (w * h) M).map (ptOf w)) := by
  have hN : w * h ≤ 36 := Nat.mul_le_mul hw6 hh
  have := cells_l w M (w * h) hw hw6 hN hM (w * h) 0 [] (by omega) (by omega) (by simp)
  rw [List.nil_append] at this
  refine Ev.congr (fun k => ?_) this
  unfold impl_cells.f
  rw [show (w : Int) * (h : Int) = ((w * h : Nat) : Int) by simp, w64n _ (by omega)]
  rfl
theorem no_bits (M i d : Nat) (h : M < 2 ^ i) : (List.range' i d).filter M.testBit = [] := by
  rw [List.filter_eq_nil_iff]
  intro j hj
  have := (List.mem_range'_1.mp hj).1
  rw [Nat.testBit_lt_two_pow (Nat.lt_of_lt_of_le h (Nat.pow_le_pow_right (by omega) this))]
  simp
theorem l08Cells_l (w M N : Nat) (hw : 1 ≤ w) (hw6 : w ≤ 6) (hN : N ≤ 36) (hM : M < 2 ^ N) (d : Nat) : ∀ (i : Nat) (acc : List S46), N - i = d → i ≤ N → acc.length ≤ i → Ev (fun k => spec_l08Cells.l0 k (w : Int) (M : Int) acc (i : Int)) (acc ++ ((List.range' i d).filter M.testBit).map (ptOf w)) := by
  have hM' : M < 9223372036854775808 := Nat.lt_of_lt_of_le hM (by
    have : (2 : Nat) ^ N ≤ 2 ^ 36 := Nat.pow_le_pow_right (by omega) hN
    omega)
  have stop : ∀ (i d : Nat) (acc : List S46), i ≤ N → M < 2 ^ i → Ev (fun k => spec_l08Cells.l0 k (w : Int) (M : Int) acc (i : Int)) (acc ++ ((List.range' i d).filter M.testBit).map (ptOf w)) := by
    intro i d acc hi h
    rw [no_bits M i d h]
    refine Ev.step (f := fun _ => some acc) (fun k => ?_) (by simpa using Ev.now acc)
    simp only [spec_l08Cells.l0, nn_t, if_true, shr_nat M i (by omega), Nat.div_eq_of_lt h]
    rfl
  induction d with
  | zero =>
    intro i acc hd hi ha
    have : i = N := by omega
    subst this
    exact stop i 0 acc hi hM
  | succ d ih =>
    intro i acc hd hi ha
    by_cases hz : M < 2 ^ i
    · exact stop i (d + 1) acc hi hz
    have hdw : i / w ≤ i := Nat.div_le_self _ _
    have hpos : 0 < M / 2 ^ i := Nat.div_pos (by omega) (Nat.pow_pos (by omega))
    have hpos' : (((M / 2 ^ i : Nat) : Int) > 0) = True := eq_true (by omega)
    rw [List.range'_succ, List.filter_cons]
    by_cases hb : M.testBit i = true
    · rw [if_pos hb]
      have := ih (i + 1) (acc ++ [ptOf w i]) (by omega) (by omega) (by simp; omega)
      rw [List.append_assoc, List.singleton_append] at this
      refine Ev.step (f := fun k => spec_l08Cells.l0 k (w : Int) (M : Int) (acc ++ [ptOf w i]) ((i + 1 : Nat) : Int)) (fun k => ?_) this
      simp only [spec_l08Cells.l0, nn_t, if_true, shr_nat M i (by omega), hpos', bit_nat M i hM', hb, w1 (show i ≤ 140737488355328 by omega), tdiv_nn, tmod_nn, w64n (i / w) (by omega)]
      rw [if_neg (by omega), if_pos (by omega)]
      rfl
    · rw [if_neg hb]
      refine Ev.step (f := fun k => spec_l08Cells.l0 k (w : Int) (M : Int) acc ((i + 1 : Nat) : Int)) (fun k => ?_) (ih (i + 1) acc (by omega) (by omega) (by omega))
      simp only [spec_l08Cells.l0, nn_t, if_true, shr_nat M i (by omega), hpos', bit_nat M i hM', hb, w1 (show i ≤ 140737488355328 by omega), if_false, Bool.false_eq_true]
      rfl
theorem l08Cells_f (w h M : Nat) (hw : 1 ≤ w) (hw6 : w ≤ 6) (hh : h ≤ 6) (hM : M < 2 ^ (w * h)) : Ev (fun k => spec_l08Cells.f k (w : Int) (M : Int)) ((cellsOf (w * h) M).map (ptOf w)) := by
  have hN : w * h ≤ 36 := Nat.mul_le_mul hw6 hh
  have := l08Cells_l w M (w * h) hw hw6 hN hM (w * h) 0 [] (by omega) (by omega) (by simp)
  rw [List.nil_append] at this
  exact this

theorem rdP_get (l : List S46) (i : Nat) (h : i < l.length) : rd_T46 l (i : Int) = l[i] := by simp [rd_T46, List.getD_eq_getElem?_getD, h]
def mvP (m : Nat) (p : S46) : S46 :=
  let q : S46 := if 4 ≤ m then ⟨-p.f0, p.f1⟩ else p
  if m % 4 = 0 then q else if m % 4 = 1 then ⟨-q.f1, q.f0⟩ else if m % 4 = 2 then ⟨-q.f0, -q.f1⟩ else ⟨q.f1, -q.f0⟩
theorem neg64 (x : Int) (h : -1000 ≤ x ∧ x ≤ 1000) : wrap64 (-x) = -x := w64 (by omega) (by omega)
theorem moved_f (m : Nat) (hm : m < 8) (x y : Int) (hx : -1000 ≤ x ∧ x ≤ 1000) (hy : -1000 ≤ y ∧ y ≤ 1000) : Ev (fun k => impl_moved.f k x y (m : Int)) ((mvP m ⟨x, y⟩).f0, (mvP m ⟨x, y⟩).f1) := by
  have nx := neg64 x hx
  have ny := neg64 y hy
  have wx : wrap64 x = x := w64 (by omega) (by omega)
  have wy : wrap64 y = y := w64 (by omega) (by omega)
  have nnx := neg64 (-x) (by omega)
  have nny := neg64 (-y) (by omega)
  refine ⟨8, fun k hk => ?_⟩
  obtain ⟨j, rfl⟩ : ∃ j, k = j + 8 := ⟨k - 8, by omega⟩
  clear hk
  have t0 : Int.tmod 0 4 = 0 := rfl
  have t1 : Int.tmod 1 4 = 1 := rfl
  have t2 : Int.tmod 2 4 = 2 := rfl
  have t3 : Int.tmod 3 4 = 3 := rfl
  have t4 : Int.tmod 4 4 = 0 := rfl
  have t5 : Int.tmod 5 4 = 1 := rfl
  have t6 : Int.tmod 6 4 = 2 := rfl
  have t7 : Int.tmod 7 4 = 3 := rfl
  have a1 : wrap64 1 = 1 := w64 (by omega) (by omega)
  have a2 : wrap64 2 = 2 := w64 (by omega) (by omega)
  have a3 : wrap64 3 = 3 := w64 (by omega) (by omega)
  obtain rfl | rfl | rfl | rfl | rfl | rfl | rfl | rfl : m = 0 ∨ m = 1 ∨ m = 2 ∨ m = 3 ∨ m = 4 ∨ m = 5 ∨ m = 6 ∨ m = 7 := by omega
  all_goals simp [impl_moved.f, impl_moved.j0, impl_moved.l0, mvP, wx, wy, nx, ny, nnx, nny, t0, t1, t2, t3, t4, t5, t6, t7, a1, a2, a3]
theorem l06Apply_f (m : Nat) (hm : m < 8) (x y : Int) (hx : -1000 ≤ x ∧ x ≤ 1000) (hy : -1000 ≤ y ∧ y ≤ 1000) : Ev (fun k => spec_l06Apply.f k x y (m : Int)) ((mvP m ⟨x, y⟩).f0, (mvP m ⟨x, y⟩).f1) := by
  have nx := neg64 x hx
  have ny := neg64 y hy
  have wx : wrap64 x = x := w64 (by omega) (by omega)
  have wy : wrap64 y = y := w64 (by omega) (by omega)
  have nnx := neg64 (-x) (by omega)
  have nny := neg64 (-y) (by omega)
  refine ⟨8, fun k hk => ?_⟩
  obtain ⟨j, rfl⟩ : ∃ j, k = j + 8 := ⟨k - 8, by omega⟩
  clear hk
  have t0 : Int.tmod 0 4 = 0 := rfl
  have t1 : Int.tmod 1 4 = 1 := rfl
  have t2 : Int.tmod 2 4 = 2 := rfl
  have t3 : Int.tmod 3 4 = 3 := rfl
  have t4 : Int.tmod 4 4 = 0 := rfl
  have t5 : Int.tmod 5 4 = 1 := rfl
  have t6 : Int.tmod 6 4 = 2 := rfl
  have t7 : Int.tmod 7 4 = 3 := rfl
  have a1 : wrap64 1 = 1 := w64 (by omega) (by omega)
  have a2 : wrap64 2 = 2 := w64 (by omega) (by omega)
  have a3 : wrap64 3 = 3 := w64 (by omega) (by omega)
  obtain rfl | rfl | rfl | rfl | rfl | rfl | rfl | rfl : m = 0 ∨ m = 1 ∨ m = 2 ∨ m = 3 ∨ m = 4 ∨ m = 5 ∨ m = 6 ∨ m = 7 := by omega
  all_goals simp [spec_l06Apply.f, spec_l06Apply.j0, spec_l06Apply.l0, mvP, wx, wy, nx, ny, nnx, nny, t0, t1, t2, t3, t4, t5, t6, t7, a1, a2, a3]
def small (B : Int) (p : S46) : Prop := (-B ≤ p.f0 ∧ p.f0 ≤ B) ∧ (-B ≤ p.f1 ∧ p.f1 ≤ B)
theorem mvP_small (B : Int) (m : Nat) (p : S46) (h : small B p) : small B (mvP m p) := by
  obtain ⟨⟨h1, h2⟩, h3, h4⟩ := h
  unfold mvP small
  by_cases c : 4 ≤ m
  · simp only [c, if_true]
    split
    · exact ⟨⟨by simp only []; omega, by simp only []; omega⟩, h3, h4⟩
    · split
      · exact ⟨⟨by simp only []; omega, by simp only []; omega⟩, by simp only []; omega, by simp only []; omega⟩
      · split
        · exact ⟨⟨by simp only []; omega, by simp only []; omega⟩, by simp only []; omega, by simp only []; omega⟩
        · exact ⟨⟨by simp only []; omega, by simp only []; omega⟩, by simp only []; omega, by simp only []; omega⟩
  · simp only [c, if_false]
    split
    · exact ⟨⟨h1, h2⟩, h3, h4⟩
    · split
      · exact ⟨⟨by simp only []; omega, by simp only []; omega⟩, by simp only []; omega, by simp only []; omega⟩
      · split
        · exact ⟨⟨by simp only []; omega, by simp only []; omega⟩, by simp only []; omega, by simp only []; omega⟩
        · exact ⟨⟨by simp only []; omega, by simp only []; omega⟩, by simp only []; omega, by simp only []; omega⟩
theorem mvP_inj (m : Nat) (p q : S46) (h : mvP m p = mvP m q) : p = q := by
  obtain ⟨a, b⟩ := p
  obtain ⟨c, d⟩ := q
  have h0 := congrArg S46.f0 h
  have h1 := congrArg S46.f1 h
  clear h
  unfold mvP at h0 h1
  by_cases e : 4 ≤ m
  · simp only [e, if_true] at h0 h1
    split at h0 <;> rename_i g
    · simp only [g, if_true] at h0 h1
      simp only [S46.mk.injEq]; omega
    · simp only [g, if_false] at h1
      split at h0 <;> rename_i g2
      · simp only [g2, if_true] at h0 h1
        simp only [S46.mk.injEq]; omega
      · simp only [g2, if_false] at h1
        split at h0 <;> rename_i g3
        · simp only [g3, if_true] at h0 h1
          simp only [S46.mk.injEq]; omega
        · simp only [g3, if_false] at h0 h1
          simp only [S46.mk.injEq]; omega
  · simp only [e, if_false] at h0 h1
    split at h0 <;> rename_i g
    · simp only [g, if_true] at h0 h1
      simp only [S46.mk.injEq]; omega
    · simp only [g, if_false] at h1
      split at h0 <;> rename_i g2
      · simp only [g2, if_true] at h0 h1
        simp only [S46.mk.injEq]; omega
      · simp only [g2, if_false] at h1
        split at h0 <;> rename_i g3
        · simp only [g3, if_true] at h0 h1
          simp only [S46.mk.injEq]; omega
        · simp only [g3, if_false] at h0 h1
          simp only [S46.mk.injEq]; omega
/-- The least numbers. -/
def lowF (p : Int × Int) (q : S46) : Int × Int := (mn p.1 q.f0, mn p.2 q.f1)
def lowOf (l : List S46) : Int × Int := l.foldl lowF ((rd_T46 l 0).f0, (rd_T46 l 0).f1)
def subP (o : Int × Int) (q : S46) : S46 := ⟨q.f0 - o.1, q.f1 - o.2⟩
theorem box_l (l : List S46) (hl : l.length ≤ 1000) (d : Nat) : ∀ (i : Nat) (a b u v : Int), l.length - i = d → i ≤ l.length → ∃ u' v', Ev (fun k => impl_box.l0 k l (l.length : Int) (i : Int) a b u v) (((l.drop i).foldl lowF (a, b)).1, ((l.drop i).foldl lowF (a, b)).2, u', v') := by
  induction d with
  | zero =>
    intro i a b u v hd hi
    refine ⟨u, v, Ev.step (f := fun _ => some (a, b, u, v)) (fun k => ?_) ?_⟩
    · simp only [impl_box.l0, lt_f (show l.length ≤ i by omega), if_false]
    · rw [List.drop_of_length_le (by omega)]
      exact Ev.now _
  | succ d ih =>
    intro i a b u v hd hi
    have hlt : i < l.length := by omega
    obtain ⟨u', v', h⟩ := ih (i + 1) (mn a (rd_T46 l (i : Int)).f0) (mn b (rd_T46 l (i : Int)).f1) (mx u (rd_T46 l (i : Int)).f0) (mx v (rd_T46 l (i : Int)).f1) (by omega) (by omega)
    refine ⟨u', v', Ev.step (fun k => ?_) (by rw [List.drop_eq_getElem_cons hlt, List.foldl_cons, ← rdP_get l i hlt]; exact h)⟩
    simp only [impl_box.l0, lt_t hlt, nn_t, if_true, w1 (show i ≤ 140737488355328 by omega)]
theorem box_f (l : List S46) (h0 : 0 < l.length) (hl : l.length ≤ 1000) : ∃ u v, Ev (fun k => impl_box.f k l) ((lowOf l).1, (lowOf l).2, u, v) := by
  obtain ⟨u, v, h⟩ := box_l l hl l.length 0 (rd_T46 l 0).f0 (rd_T46 l 0).f1 (rd_T46 l 0).f0 (rd_T46 l 0).f1 (by omega) (by omega)
  refine ⟨u, v, Ev.congr (fun k => ?_) h⟩
  unfold impl_box.f
  rw [if_pos (by omega)]
  rfl
theorem low_le (l : List S46) (a b : Int) : (l.foldl lowF (a, b)).1 ≤ a ∧ (l.foldl lowF (a, b)).2 ≤ b ∧ ∀ q ∈ l, (l.foldl lowF (a, b)).1 ≤ q.f0 ∧ (l.foldl lowF (a, b)).2 ≤ q.f1 := by
  induction l generalizing a b with
  | nil => exact ⟨Int.le_refl _, Int.le_refl _, fun q hq => by simp at hq⟩
  | cons x r ih =>
    rw [List.foldl_cons]
    obtain ⟨h1, h2, h3⟩ := ih (mn a x.f0) (mn b x.f1)
    have e1 : mn a x.f0 ≤ a ∧ mn a x.f0 ≤ x.f0 := by unfold mn; split <;> omega
    have e2 : mn b x.f1 ≤ b ∧ mn b x.f1 ≤ x.f1 := by unfold mn; split <;> omega
    show (r.foldl lowF (mn a x.f0, mn b x.f1)).1 ≤ a ∧ (r.foldl lowF (mn a x.f0, mn b x.f1)).2 ≤ b ∧ _
    refine ⟨by omega, by omega, fun q hq => ?_⟩
    rcases List.mem_cons.mp hq with rfl | hq
    · show (r.foldl lowF (mn a q.f0, mn b q.f1)).1 ≤ _ ∧ (r.foldl lowF (mn a q.f0, mn b q.f1)).2 ≤ _
      omega
    · exact h3 q hq
theorem low_small (B : Int) (l : List S46) (h : ∀ q ∈ l, small B q) (a b : Int) (ha : -B ≤ a ∧ a ≤ B) (hb : -B ≤ b ∧ b ≤ B) : -B ≤ (l.foldl lowF (a, b)).1 ∧ (l.foldl lowF (a, b)).1 ≤ B ∧ -B ≤ (l.foldl lowF (a, b)).2 ∧ (l.foldl lowF (a, b)).2 ≤ B := by
  induction l generalizing a b with
  | nil => exact ⟨ha.1, ha.2, hb.1, hb.2⟩
  | cons x r ih =>
    rw [List.foldl_cons]
    have hx := h x (by simp)
    obtain ⟨⟨x1, x2⟩, x3, x4⟩ := hx
    refine ih (fun q hq => h q (by simp [hq])) (mn a x.f0) (mn b x.f1) ?_ ?_
    · unfold mn; split <;> omega
    · unfold mn; split <;> omega
theorem lowOf_facts (B : Int) (l : List S46) (h0 : 0 < l.length) (h : ∀ q ∈ l, small B q) : (-B ≤ (lowOf l).1 ∧ (lowOf l).1 ≤ B ∧ -B ≤ (lowOf l).2 ∧ (lowOf l).2 ≤ B) ∧ ∀ q ∈ l, (lowOf l).1 ≤ q.f0 ∧ (lowOf l).2 ≤ q.f1 := by
  have e : rd_T46 l 0 = l[0] := rdP_get l 0 h0
  have hx := h l[0] (List.getElem_mem h0)
  obtain ⟨⟨x1, x2⟩, x3, x4⟩ := hx
  unfold lowOf
  rw [e]
  exact ⟨low_small B l h _ _ ⟨x1, x2⟩ ⟨x3, x4⟩, (low_le l _ _).2.2⟩
theorem sub64 (x y : Int) (hx : -1000 ≤ x ∧ x ≤ 1000) (hy : -1000 ≤ y ∧ y ≤ 1000) : wrap64 (x - y) = x - y := w64 (by omega) (by omega)
theorem moveon_l1 (L : List S46) (hl : L.length ≤ 1000) (hs : ∀ q ∈ L, small 1000 q) (o : Int × Int) (ho : (-1000 ≤ o.1 ∧ o.1 ≤ 1000) ∧ (-1000 ≤ o.2 ∧ o.2 ≤ 1000)) (d : Nat) : ∀ (i : Nat) (ys : List S46), L.length - i = d → i ≤ L.length → ys.length = L.length → ys.take i = (L.take i).map (subP o) → ys.drop i = L.drop i → Ev (fun k => impl_movedOn.l1 k ys (L.length : Int) (i : Int) o.1 o.2) (L.map (subP o)) := by
  induction d with
  | zero =>
    intro i ys hd hi hy ht hdr
    have e : i = L.length := by omega
    subst e
    rw [List.take_length, ← hy, List.take_length] at ht
    refine Ev.step (f := fun _ => some ys) (fun k => ?_) (by rw [← ht]; exact Ev.now ys)
    simp only [impl_movedOn.l1, lt_f (Nat.le_refl L.length), if_false]
  | succ d ih =>
    intro i ys hd hi hy ht hdr
    have hlt : i < L.length := by omega
    have hlt' : i < ys.length := by omega
    have e : ys[i] = L[i] := by
      have h1 := List.drop_eq_getElem_cons hlt'
      have h2 := List.drop_eq_getElem_cons hlt
      rw [h1, h2] at hdr
      exact (List.cons.inj hdr).1
    obtain ⟨⟨x1, x2⟩, x3, x4⟩ := hs L[i] (List.getElem_mem hlt)
    have := ih (i + 1) (ys.set i (subP o L[i])) (by omega) (by omega) (by simp [hy]) ?_ ?_
    · refine Ev.step (fun k => ?_) this
      have hltb : ((i : Int) < (ys.length : Int)) = True := lt_t hlt'
      simp only [impl_movedOn.l1, lt_t hlt, hltb, nn_t, if_true, w1 (show i ≤ 140737488355328 by omega), Int.toNat_natCast, rdP_get ys i hlt', e, sub64 _ _ ⟨x1, x2⟩ ho.1, sub64 _ _ ⟨x3, x4⟩ ho.2]
      rfl
    · rw [List.take_add_one, List.take_add_one, List.map_append, List.take_set_of_le (Nat.le_refl _), ht]
      simp [hlt, hlt']
    · rw [List.drop_set_of_lt (by omega)]
      have h1 := List.drop_eq_getElem_cons hlt'
      have h2 := List.drop_eq_getElem_cons hlt
      rw [h1, h2] at hdr
      exact (List.cons.inj hdr).2
def movedL (m : Nat) (L : List S46) : List S46 := (L.map (mvP m)).map (subP (lowOf (L.map (mvP m))))
theorem moveon_l0 (m : Nat) (hm : m < 8) (xs : List S46) (hl : xs.length ≤ 1000) (hs : ∀ q ∈ xs, small 1000 q) (r : List S46) (d : Nat) : ∀ (i : Nat) (acc : List S46), xs.length - i = d → i ≤ xs.length → acc = (xs.take i).map (mvP m) → Ev (fun k => (impl_box.f k (xs.map (mvP m))).bind fun bt => impl_movedOn.l1 k (xs.map (mvP m)) ((xs.map (mvP m)).length : Int) 0 bt.1 bt.2.1) r → Ev (fun k => impl_movedOn.l0 k (m : Int) acc xs (xs.length : Int) (i : Int)) r := by
  induction d with
  | zero =>
    intro i acc hd hi ha h
    have e : i = xs.length := by omega
    subst e
    rw [List.take_length] at ha
    subst ha
    refine Ev.step (fun k => ?_) h
    simp only [impl_movedOn.l0, lt_f (Nat.le_refl xs.length), if_false]
  | succ d ih =>
    intro i acc hd hi ha h
    have hlt : i < xs.length := by omega
    obtain ⟨x1, x2⟩ := hs xs[i] (List.getElem_mem hlt)
    have := ih (i + 1) (acc ++ [mvP m xs[i]]) (by omega) (by omega) (by rw [ha, List.take_add_one, List.getElem?_eq_getElem hlt, Option.toList_some, List.map_append, List.map_singleton]) h
    refine Ev.step (f := fun k => (impl_moved.f k (xs[i]).f0 (xs[i]).f1 (m : Int)).bind fun bt => impl_movedOn.l0 k (m : Int) (acc ++ [⟨bt.1, bt.2⟩]) xs (xs.length : Int) ((i + 1 : Nat) : Int)) (fun k => ?_) (Ev.bind (moved_f m hm _ _ x1 x2) this)
    have hal : acc.length < 8796093022208 := by rw [ha]; simp; omega
    simp only [impl_movedOn.l0, lt_t hlt, nn_t, if_true, w1 (show i ≤ 140737488355328 by omega), rdP_get xs i hlt, hal]
theorem movedOn_f (m : Nat) (hm : m < 8) (xs : List S46) (h0 : 0 < xs.length) (hl : xs.length ≤ 1000) (hs : ∀ q ∈ xs, small 1000 q) : Ev (fun k => impl_movedOn.f k xs (m : Int)) (movedL m xs) := by
  have hs' : ∀ q ∈ xs.map (mvP m), small 1000 q := by
    intro q hq
    obtain ⟨p, hp, rfl⟩ := List.mem_map.mp hq
    exact mvP_small _ m p (hs p hp)
  refine Ev.congr (fun k => rfl) (moveon_l0 m hm xs hl hs _ xs.length 0 [] (by omega) (by omega) (by simp) ?_)
  obtain ⟨u, v, hb⟩ := box_f (xs.map (mvP m)) (by simpa using h0) (by simpa using hl)
  obtain ⟨⟨l1, l2, l3, l4⟩, _⟩ := lowOf_facts 1000 (xs.map (mvP m)) (by simpa using h0) hs'
  exact Ev.bind hb (moveon_l1 (xs.map (mvP m)) (by simpa using hl) hs' (lowOf (xs.map (mvP m))) ⟨⟨l1, l2⟩, l3, l4⟩ _ 0 _ rfl (by omega) rfl (by simp) rfl)
theorem corner_l1 (L : List S46) (hl : L.length ≤ 1000) (hs : ∀ q ∈ L, small 1000 q) (o : Int × Int) (ho : (-1000 ≤ o.1 ∧ o.1 ≤ 1000) ∧ (-1000 ≤ o.2 ∧ o.2 ≤ 1000)) (d : Nat) : ∀ (i : Nat) (acc : List S46), L.length - i = d → i ≤ L.length → acc = (L.take i).map (subP o) → Ev (fun k => spec_l06Corner.l1 k o.1 o.2 acc L (L.length : Int) (i : Int)) (L.map (subP o)) := by
  induction d with
  | zero =>
    intro i acc hd hi ha
    have e : i = L.length := by omega
    subst e
    rw [List.take_length] at ha
    subst ha
    refine Ev.step (f := fun _ => some _) (fun k => ?_) (Ev.now _)
    simp only [spec_l06Corner.l1, lt_f (Nat.le_refl L.length), if_false]
  | succ d ih =>
    intro i acc hd hi ha
    have hlt : i < L.length := by omega
    obtain ⟨⟨x1, x2⟩, x3, x4⟩ := hs L[i] (List.getElem_mem hlt)
    refine Ev.step (fun k => ?_) (ih (i + 1) (acc ++ [subP o L[i]]) (by omega) (by omega) (by rw [ha, List.take_add_one, List.getElem?_eq_getElem hlt, Option.toList_some, List.map_append, List.map_singleton]))
    have hal : acc.length < 8796093022208 := by rw [ha]; simp; omega
    simp only [spec_l06Corner.l1, lt_t hlt, nn_t, if_true, w1 (show i ≤ 140737488355328 by omega), rdP_get L i hlt, hal, sub64 _ _ ⟨x1, x2⟩ ho.1, sub64 _ _ ⟨x3, x4⟩ ho.2]
    rfl
theorem corner_l0 (L : List S46) (hl : L.length ≤ 1000) (r : List S46) (d : Nat) : ∀ (i : Nat) (a b : Int), L.length - i = d → i ≤ L.length → Ev (fun k => spec_l06Corner.l1 k ((L.drop i).foldl lowF (a, b)).1 ((L.drop i).foldl lowF (a, b)).2 [] L (L.length : Int) 0) r → Ev (fun k => spec_l06Corner.l0 k L a b L (L.length : Int) (i : Int)) r := by
  induction d with
  | zero =>
    intro i a b hd hi h
    rw [List.drop_of_length_le (by omega)] at h
    refine Ev.step (fun k => ?_) h
    simp only [spec_l06Corner.l0, lt_f (show L.length ≤ i by omega), if_false]
    rfl
  | succ d ih =>
    intro i a b hd hi h
    have hlt : i < L.length := by omega
    rw [List.drop_eq_getElem_cons hlt, List.foldl_cons, ← rdP_get L i hlt] at h
    refine Ev.step (fun k => ?_) (ih (i + 1) (mn a (rd_T46 L (i : Int)).f0) (mn b (rd_T46 L (i : Int)).f1) (by omega) (by omega) h)
    simp only [spec_l06Corner.l0, lt_t hlt, nn_t, if_true, w1 (show i ≤ 140737488355328 by omega)]
theorem corner_f (L : List S46) (h0 : 0 < L.length) (hl : L.length ≤ 1000) (hs : ∀ q ∈ L, small 1000 q) : Ev (fun k => spec_l06Corner.f k L) (L.map (subP (lowOf L))) := by
  obtain ⟨⟨l1, l2, l3, l4⟩, _⟩ := lowOf_facts 1000 L h0 hs
  refine Ev.congr (fun k => ?_) (corner_l0 L hl _ L.length 0 (rd_T46 L 0).f0 (rd_T46 L 0).f1 (by omega) (by omega) (corner_l1 L hl hs (lowOf L) ⟨⟨l1, l2⟩, l3, l4⟩ _ 0 [] rfl (by omega) (by simp)))
  unfold spec_l06Corner.f
  rw [if_pos (by omega)]
  rfl

theorem add_bit (a i : Nat) (h : a.testBit i = false) : a + 2 ^ i = a ||| 2 ^ i := by
  rw [Nat.testBit_eq_decide_div_mod_eq, decide_eq_false_iff_not] at h
  have h0 : a / 2 ^ i % 2 = 0 := by omega
  have hr : a % 2 ^ (i + 1) < 2 ^ i := by
    rw [Nat.mod_pow_succ, h0, Nat.mul_zero, Nat.add_zero]
    exact Nat.mod_lt _ (Nat.pow_pos (by omega))
  have e : 2 ^ (i + 1) * (a / 2 ^ (i + 1)) + a % 2 ^ (i + 1) = a := Nat.div_add_mod a (2 ^ (i + 1))
  have hp : 2 ^ (i + 1) = 2 ^ i + 2 ^ i := by rw [Nat.pow_succ]; omega
  generalize a % 2 ^ (i + 1) = r at hr e
  generalize a / 2 ^ (i + 1) = q at e
  have e1 : r ||| 2 ^ i = r + 2 ^ i := Nat.or_two_pow_eq_add_of_lt hr
  have e2 := Nat.two_pow_add_eq_or_of_lt (i := i + 1) (b := r) (by omega) q
  have e3 := Nat.two_pow_add_eq_or_of_lt (i := i + 1) (b := r + 2 ^ i) (by omega) q
  rw [← e1, ← Nat.or_assoc, ← e2, e, e1] at e3
  rw [← e3]
  omega
theorem idx_lt {w h x y : Nat} (hx : x < w) (hy : y < h) : y * w + x < w * h := by
  have h1 : (y + 1) * w ≤ h * w := Nat.mul_le_mul_right w hy
  rw [Nat.add_mul, Nat.one_mul] at h1
  rw [Nat.mul_comm w h]
  omega
theorem idx_inj {w x y x' y' : Nat} (hx : x < w) (hx' : x' < w) (h : y * w + x = y' * w + x') : x = x' ∧ y = y' := by
  have a := congrArg (· % w) h
  have b := congrArg (· / w) h
  simp only [Nat.mul_add_mod_self_right, Nat.mod_eq_of_lt hx, Nat.mod_eq_of_lt hx'] at a
  have hw : 0 < w := by omega
  rw [Nat.mul_comm y, Nat.mul_comm y'] at b
  simp only [Nat.mul_add_div hw, Nat.div_eq_of_lt hx, Nat.div_eq_of_lt hx', Nat.add_zero] at b
  exact ⟨a, b⟩
theorem pow_lt {w h i : Nat} (hN : w * h ≤ 36) (hi : i < w * h) : 2 ^ i < 2 ^ (w * h) ∧ 2 ^ (w * h) ≤ 68719476736 := by
  refine ⟨Nat.pow_lt_pow_right (by omega) hi, ?_⟩
  have : (2 : Nat) ^ (w * h) ≤ 2 ^ 36 := Nat.pow_le_pow_right (by omega) hN
  simpa using this
def idx (w : Nat) (q : S46) : Nat := q.f1.toNat * w + q.f0.toNat
def putI (w h : Nat) : List S46 → Nat → Nat × Bool
  | [], a => (a, true)
  | q :: r, a => if q.f0 ≥ (w : Int) then (0, false) else if q.f1 ≥ (h : Int) then (0, false) else putI w h r (a ||| 2 ^ idx w q)
def nn (q : S46) : Prop := (0 ≤ q.f0 ∧ q.f0 ≤ 1000) ∧ (0 ≤ q.f1 ∧ q.f1 ≤ 1000)
theorem idx_int (w h : Nat) (hN : w * h ≤ 36) (q : S46) (hq : nn q) (h0 : ¬ q.f0 ≥ (w : Int)) (h1 : ¬ q.f1 ≥ (h : Int)) : wrap64 (wrap64 (q.f1 * (w : Int)) + q.f0) = ((idx w q : Nat) : Int) ∧ idx w q < w * h := by
  obtain ⟨⟨a1, a2⟩, b1, b2⟩ := hq
  obtain ⟨x, hx⟩ := Int.eq_ofNat_of_zero_le a1
  obtain ⟨y, hy⟩ := Int.eq_ofNat_of_zero_le b1
  unfold idx
  rw [hx, hy, Int.toNat_natCast, Int.toNat_natCast]
  have hl : y * w + x < w * h := idx_lt (by omega) (by omega)
  refine ⟨?_, hl⟩
  rw [show (y : Int) * (w : Int) = ((y * w : Nat) : Int) by simp, w64n _ (by omega), show ((y * w : Nat) : Int) + (x : Int) = ((y * w + x : Nat) : Int) by simp, w64n _ (by omega)]
theorem put_impl (w h : Nat) (hN : w * h ≤ 36) (Q : List S46) (hl : Q.length ≤ 1000) (hq : ∀ q ∈ Q, nn q) (d : Nat) : ∀ (i a : Nat), Q.length - i = d → i ≤ Q.length → a < 2 ^ (w * h) → Ev (fun k => impl_movedMask.l0 k (w : Int) (h : Int) (a : Int) Q (Q.length : Int) (i : Int)) (((putI w h (Q.drop i) a).1 : Int), (putI w h (Q.drop i) a).2) := by
  have hp : 2 ^ (w * h) ≤ 68719476736 := by
    have : (2 : Nat) ^ (w * h) ≤ 2 ^ 36 := Nat.pow_le_pow_right (by omega) hN
    simpa using this
  induction d with
  | zero =>
    intro i a hd hi ha
    rw [List.drop_of_length_le (by omega)]
    refine Ev.step (f := fun _ => some ((a : Int), true)) (fun k => ?_) (Ev.now _)
    simp only [impl_movedMask.l0, lt_f (show Q.length ≤ i by omega), if_false]
  | succ d ih =>
    intro i a hd hi ha
    have hlt : i < Q.length := by omega
    have hqi := hq Q[i] (List.getElem_mem hlt)
    rw [List.drop_eq_getElem_cons hlt, putI]
    by_cases c0 : (Q[i]).f0 ≥ (w : Int)
    · refine Ev.step (f := fun _ => some (0, false)) (fun k => ?_) (by rw [if_pos c0]; exact Ev.now _)
      simp only [impl_movedMask.l0, lt_t hlt, nn_t, if_true, rdP_get Q i hlt, c0]
    · by_cases c1 : (Q[i]).f1 ≥ (h : Int)
      · refine Ev.step (f := fun _ => some (0, false)) (fun k => ?_) (by rw [if_neg c0, if_pos c1]; exact Ev.now _)
        simp only [impl_movedMask.l0, lt_t hlt, nn_t, if_true, rdP_get Q i hlt, c0, c1, if_false]
      · obtain ⟨e1, e2⟩ := idx_int w h hN _ hqi c0 c1
        obtain ⟨e3, e4⟩ := pow_lt hN e2
        have hor : a ||| 2 ^ idx w Q[i] < 2 ^ (w * h) := Nat.or_lt_two_pow ha e3
        refine Ev.step (fun k => ?_) (by rw [if_neg c0, if_neg c1]; exact ih (i + 1) (a ||| 2 ^ idx w Q[i]) (by omega) (by omega) hor)
        simp only [impl_movedMask.l0, lt_t hlt, nn_t, if_true, rdP_get Q i hlt, c0, c1, if_false, e1, w1 (show i ≤ 140737488355328 by omega), shl_one (idx w Q[i]) (by omega), i64_or a (2 ^ idx w Q[i]) (by omega) (by omega)]
theorem put_spec (w h : Nat) (hN : w * h ≤ 36) (Q : List S46) (hl : Q.length ≤ 1000) (hq : ∀ q ∈ Q, nn q) (hnd : Q.Pairwise (· ≠ ·)) (d : Nat) : ∀ (i a : Nat), Q.length - i = d → i ≤ Q.length → a < 2 ^ (w * h) → (∀ j, a.testBit j = true → ∃ p ∈ Q.take i, idx w p = j ∧ p.f0 < (w : Int)) → Ev (fun k => spec_l08Put.l0 k (w : Int) (h : Int) (a : Int) Q (Q.length : Int) (i : Int)) (((putI w h (Q.drop i) a).1 : Int), (putI w h (Q.drop i) a).2) := by
  have hp : 2 ^ (w * h) ≤ 68719476736 := by
    have : (2 : Nat) ^ (w * h) ≤ 2 ^ 36 := Nat.pow_le_pow_right (by omega) hN
    simpa using this
  induction d with
  | zero =>
    intro i a hd hi ha _
    rw [List.drop_of_length_le (by omega)]
    refine Ev.step (f := fun _ => some ((a : Int), true)) (fun k => ?_) (Ev.now _)
    simp only [spec_l08Put.l0, lt_f (show Q.length ≤ i by omega), if_false]
  | succ d ih =>
    intro i a hd hi ha hb
    have hlt : i < Q.length := by omega
    have hqi := hq Q[i] (List.getElem_mem hlt)
    rw [List.drop_eq_getElem_cons hlt, putI]
    by_cases c0 : (Q[i]).f0 ≥ (w : Int)
    · refine Ev.step (f := fun _ => some (0, false)) (fun k => ?_) (by rw [if_pos c0]; exact Ev.now _)
      simp only [spec_l08Put.l0, lt_t hlt, nn_t, if_true, rdP_get Q i hlt, c0]
    · by_cases c1 : (Q[i]).f1 ≥ (h : Int)
      · refine Ev.step (f := fun _ => some (0, false)) (fun k => ?_) (by rw [if_neg c0, if_pos c1]; exact Ev.now _)
        simp only [spec_l08Put.l0, lt_t hlt, nn_t, if_true, rdP_get Q i hlt, c0, c1, if_false]
      · obtain ⟨e1, e2⟩ := idx_int w h hN _ hqi c0 c1
        obtain ⟨e3, e4⟩ := pow_lt hN e2
        have hor : a ||| 2 ^ idx w Q[i] < 2 ^ (w * h) := Nat.or_lt_two_pow ha e3
        have hfree : a.testBit (idx w Q[i]) = false := by
          cases hh : a.testBit (idx w Q[i]) with
          | false => rfl
          | true =>
            exfalso
            obtain ⟨p, hp1, hp2, hp3⟩ := hb _ hh
            obtain ⟨j, hj, rfl⟩ := List.mem_iff_getElem.mp hp1
            rw [List.length_take] at hj
            rw [List.getElem_take] at hp2 hp3
            have hne := (List.pairwise_iff_getElem.mp hnd) j i (by omega) hlt (by omega)
            have hpj := hq (Q[j]'(by omega)) (List.getElem_mem _)
            obtain ⟨⟨u1, _⟩, u2, _⟩ := hpj
            obtain ⟨⟨v1, _⟩, v2, _⟩ := hqi
            obtain ⟨i1, i2⟩ := idx_inj (w := w) (by omega) (by omega) hp2
            refine hne ?_
            cases hA : Q[j]'(by omega)
            cases hB : Q[i]
            simp only [hA, hB] at i1 i2 u1 u2 v1 v2
            simp only [S46.mk.injEq]
            omega
        have hadd := add_bit a _ hfree
        have := ih (i + 1) (a ||| 2 ^ idx w Q[i]) (by omega) (by omega) hor (by
          intro j hj
          rw [Nat.testBit_or, Bool.or_eq_true] at hj
          rw [List.take_add_one, List.getElem?_eq_getElem hlt, Option.toList_some]
          rcases hj with hj | hj
          · obtain ⟨p, p1, p2⟩ := hb j hj
            exact ⟨p, List.mem_append_left _ p1, p2⟩
          · rw [Nat.testBit_two_pow, decide_eq_true_eq] at hj
            exact ⟨Q[i], List.mem_append_right _ (List.mem_singleton.mpr rfl), hj, by omega⟩)
        refine Ev.step (fun k => ?_) (by rw [if_neg c0, if_neg c1]; exact this)
        simp only [spec_l08Put.l0, lt_t hlt, nn_t, if_true, rdP_get Q i hlt, c0, c1, if_false, e1, w1 (show i ≤ 140737488355328 by omega), shl_one (idx w Q[i]) (by omega)]
        rw [show (a : Int) + ((2 ^ idx w Q[i] : Nat) : Int) = ((a ||| 2 ^ idx w Q[i] : Nat) : Int) by rw [← hadd]; simp, w64n _ (by omega)]
theorem putI_lt (w h : Nat) (hN : w * h ≤ 36) (Q : List S46) (hq : ∀ q ∈ Q, nn q) : ∀ a, a < 2 ^ (w * h) → (putI w h Q a).1 < 2 ^ (w * h) := by
  induction Q with
  | nil => intro a ha; exact ha
  | cons q r ih =>
    intro a ha
    rw [putI]
    by_cases c0 : q.f0 ≥ (w : Int)
    · rw [if_pos c0]; exact Nat.pow_pos (by omega)
    · by_cases c1 : q.f1 ≥ (h : Int)
      · rw [if_neg c0, if_pos c1]; exact Nat.pow_pos (by omega)
      · rw [if_neg c0, if_neg c1]
        obtain ⟨e1, e2⟩ := idx_int w h hN _ (hq q (by simp)) c0 c1
        exact ih (fun p hp => hq p (by simp [hp])) _ (Nat.or_lt_two_pow ha (pow_lt hN e2).1)
/-- The cells of a mask, as points: small, no two alike, not none. -/
theorem pts_facts (w N M : Nat) (hN : N ≤ 36) : (∀ q ∈ (cellsOf N M).map (ptOf w), small 100 q) ∧ ((cellsOf N M).map (ptOf w)).Pairwise (· ≠ ·) ∧ ((cellsOf N M).map (ptOf w)).length ≤ 36 := by
  refine ⟨?_, ?_, ?_⟩
  · intro q hq
    obtain ⟨c, hc, rfl⟩ := List.mem_map.mp hq
    have hc' := (List.mem_range'_1.mp (List.mem_filter.mp hc).1).2
    have h1 : c % w ≤ c := Nat.mod_le _ _
    have h2 : c / w ≤ c := Nat.div_le_self _ _
    unfold small ptOf
    generalize c % w = u at h1 ⊢
    generalize c / w = v at h2 ⊢
    exact ⟨⟨by simp only []; omega, by simp only []; omega⟩, by simp only []; omega, by simp only []; omega⟩
  · refine List.Pairwise.map _ (R := (· < ·)) ?_ ((List.pairwise_lt_range' (s := 0) (n := N) 1).filter _)
    intro a b hab he
    have h0 := congrArg S46.f0 he
    have h1 := congrArg S46.f1 he
    simp only [ptOf] at h0 h1
    have e1 := Nat.div_add_mod a w
    have e2 := Nat.div_add_mod b w
    have h0' : a % w = b % w := by omega
    have h1' : a / w = b / w := by omega
    rw [h0', h1'] at e1
    omega
  · rw [List.length_map]
    exact Nat.le_trans (List.length_filter_le _ _) (by simp; omega)
theorem pts_pos (w N M : Nat) (hM : M ≠ 0) (hl : M < 2 ^ N) : 0 < ((cellsOf N M).map (ptOf w)).length := by
  obtain ⟨i, hi⟩ := Nat.exists_testBit_of_ne_zero hM
  have hiN : i < N := by
    refine Decidable.byContradiction fun h => ?_
    rw [Nat.testBit_lt_two_pow (Nat.lt_of_lt_of_le hl (Nat.pow_le_pow_right (by omega) (by omega)))] at hi
    exact absurd hi (by simp)
  have : i ∈ cellsOf N M := List.mem_filter.mpr ⟨List.mem_range'_1.mpr ⟨by omega, by omega⟩, hi⟩
  rw [List.length_map]
  exact List.length_pos_of_mem this
theorem movedL_facts (m : Nat) (L : List S46) (h0 : 0 < L.length) (hs : ∀ q ∈ L, small 100 q) (hnd : L.Pairwise (· ≠ ·)) : (∀ q ∈ movedL m L, nn q) ∧ (movedL m L).Pairwise (· ≠ ·) ∧ (movedL m L).length = L.length := by
  have hs' : ∀ q ∈ L.map (mvP m), small 100 q := by
    intro q hq
    obtain ⟨p, hp, rfl⟩ := List.mem_map.mp hq
    exact mvP_small _ m p (hs p hp)
  obtain ⟨⟨l1, l2, l3, l4⟩, l5⟩ := lowOf_facts 100 (L.map (mvP m)) (by simpa using h0) hs'
  refine ⟨?_, ?_, by simp [movedL]⟩
  · intro q hq
    obtain ⟨p, hp, rfl⟩ := List.mem_map.mp hq
    have ⟨g1, g2⟩ := l5 p hp
    obtain ⟨⟨x1, x2⟩, x3, x4⟩ := hs' p hp
    unfold nn subP
    exact ⟨⟨by simp only []; omega, by simp only []; omega⟩, by simp only []; omega, by simp only []; omega⟩
  · unfold movedL
    refine List.Pairwise.map _ (R := (· ≠ ·)) ?_ (List.Pairwise.map _ (R := (· ≠ ·)) ?_ hnd)
    · intro a b hab he
      have e0 := congrArg S46.f0 he
      have e1 := congrArg S46.f1 he
      simp only [subP] at e0 e1
      refine hab ?_
      cases a
      cases b
      simp only [S46.mk.injEq]
      simp only [] at e0 e1
      omega
    · exact fun a b hab he => hab (mvP_inj m a b he)
/-- The mask after a motion, and whether it fits. -/
def mvM (w h M m : Nat) : Nat × Bool := putI w h (movedL m ((cellsOf (w * h) M).map (ptOf w))) 0
theorem movedMask_f (w h M m : Nat) (hw : 1 ≤ w) (hw6 : w ≤ 6) (hh : h ≤ 6) (hM : M ≠ 0) (hl : M < 2 ^ (w * h)) (hm : m < 8) : Ev (fun k => impl_movedMask.f k (w : Int) (h : Int) (M : Int) (m : Int)) (((mvM w h M m).1 : Int), (mvM w h M m).2) := by
  have hN : w * h ≤ 36 := Nat.mul_le_mul hw6 hh
  have hp : (2 : Nat) ^ (w * h) ≤ 2 ^ 36 := Nat.pow_le_pow_right (by omega) hN
  obtain ⟨p1, p2, p3⟩ := pts_facts w (w * h) M hN
  have p4 := pts_pos w (w * h) M hM hl
  obtain ⟨q1, q2, q3⟩ := movedL_facts m _ p4 p1 p2
  have hM0 : ¬ ((M : Int) = 0) := by omega
  have e : ∀ k, impl_movedMask.f k (w : Int) (h : Int) (M : Int) (m : Int) = (impl_cells.f k (w : Int) (h : Int) (M : Int)).bind fun t => (impl_movedOn.f k t (m : Int)).bind fun t' => impl_movedMask.l0 k (w : Int) (h : Int) 0 t' (t'.length : Int) 0 := fun k => by
    unfold impl_movedMask.f
    rw [if_neg hM0]
  refine Ev.congr e ?_
  refine Ev.bind (cells_f w h M hw hw6 hh (by omega)) ?_
  refine Ev.bind (movedOn_f m hm _ p4 (by omega) (fun q hq => ⟨⟨by have := (p1 q hq).1; omega, by have := (p1 q hq).1; omega⟩, by have := (p1 q hq).2; omega, by have := (p1 q hq).2; omega⟩)) ?_
  exact put_impl w h hN _ (by omega) q1 _ 0 0 rfl (by omega) (Nat.pow_pos (by omega))
theorem mvM_lt (w h M m : Nat) (hw6 : w ≤ 6) (hh : h ≤ 6) (hM : M ≠ 0) (hl : M < 2 ^ (w * h)) : (mvM w h M m).1 < 2 ^ (w * h) := by
  have hN : w * h ≤ 36 := Nat.mul_le_mul hw6 hh
  obtain ⟨p1, p2, p3⟩ := pts_facts w (w * h) M hN
  have p4 := pts_pos w (w * h) M hM hl
  obtain ⟨q1, q2, q3⟩ := movedL_facts m _ p4 p1 p2
  exact putI_lt w h hN _ q1 0 (Nat.pow_pos (by omega))
theorem l08Put_f (w h m : Nat) (hN : w * h ≤ 36) (L : List S46) (h0 : 0 < L.length) (hl : L.length ≤ 1000) (hs : ∀ q ∈ L, small 100 q) (hnd : L.Pairwise (· ≠ ·)) : Ev (fun k => spec_l08Put.f k (w : Int) (h : Int) (L.map (mvP m))) (((putI w h (movedL m L) 0).1 : Int), (putI w h (movedL m L) 0).2) := by
  obtain ⟨q1, q2, q3⟩ := movedL_facts m _ h0 hs hnd
  have hs' : ∀ q ∈ L.map (mvP m), small 1000 q := by
    intro q hq
    obtain ⟨p, hp, rfl⟩ := List.mem_map.mp hq
    have := mvP_small _ m p (hs p hp)
    exact ⟨⟨by have := this.1; omega, by have := this.1; omega⟩, by have := this.2; omega, by have := this.2; omega⟩
  have e : ∀ k, spec_l08Put.f k (w : Int) (h : Int) (L.map (mvP m)) = (spec_l06Corner.f k (L.map (mvP m))).bind fun t => spec_l08Put.l0 k (w : Int) (h : Int) 0 t (t.length : Int) 0 := fun k => by
    unfold spec_l08Put.f
    rw [if_neg (by rw [List.length_map]; omega)]
  refine Ev.congr e ?_
  refine Ev.bind (corner_f (L.map (mvP m)) (by simpa using h0) (by simpa using hl) hs') ?_
  exact put_spec w h hN _ (by show (movedL m L).length ≤ 1000; omega) q1 q2 _ 0 0 rfl (by omega) (Nat.pow_pos (by omega)) (fun j hj => by simp at hj)
theorem l08Move_l (w h m : Nat) (hm : m < 8) (M3 : Int) (xs : List S46) (hl : xs.length ≤ 1000) (hs : ∀ q ∈ xs, small 1000 q) (r : Int × Bool) (d : Nat) : ∀ (i : Nat) (acc : List S46), xs.length - i = d → i ≤ xs.length → acc = (xs.take i).map (mvP m) → Ev (fun k => spec_l08Put.f k (w : Int) (h : Int) (xs.map (mvP m))) r → Ev (fun k => spec_l08Move.l0 k (w : Int) (h : Int) (m : Int) acc xs (xs.length : Int) (i : Int)) r := by
  induction d with
  | zero =>
    intro i acc hd hi ha hh
    have e : i = xs.length := by omega
    subst e
    rw [List.take_length] at ha
    subst ha
    refine Ev.step (fun k => ?_) (Ev.bind hh (Ev.now r))
    simp only [spec_l08Move.l0, lt_f (Nat.le_refl xs.length), if_false]
  | succ d ih =>
    intro i acc hd hi ha hh
    have hlt : i < xs.length := by omega
    obtain ⟨x1, x2⟩ := hs xs[i] (List.getElem_mem hlt)
    have := ih (i + 1) (acc ++ [mvP m xs[i]]) (by omega) (by omega) (by rw [ha, List.take_add_one, List.getElem?_eq_getElem hlt, Option.toList_some, List.map_append, List.map_singleton]) hh
    refine Ev.step (f := fun k => (spec_l06Apply.f k (xs[i]).f0 (xs[i]).f1 (m : Int)).bind fun bt => spec_l08Move.l0 k (w : Int) (h : Int) (m : Int) (acc ++ [⟨bt.1, bt.2⟩]) xs (xs.length : Int) ((i + 1 : Nat) : Int)) (fun k => ?_) (Ev.bind (l06Apply_f m hm _ _ x1 x2) this)
    have hal : acc.length < 8796093022208 := by rw [ha]; simp; omega
    simp only [spec_l08Move.l0, lt_t hlt, nn_t, if_true, w1 (show i ≤ 140737488355328 by omega), rdP_get xs i hlt, hal]
theorem l08Move_f (w h M m : Nat) (hw : 1 ≤ w) (hw6 : w ≤ 6) (hh : h ≤ 6) (hM : M ≠ 0) (hl : M < 2 ^ (w * h)) (hm : m < 8) : Ev (fun k => spec_l08Move.f k (w : Int) (h : Int) (M : Int) (m : Int)) (((mvM w h M m).1 : Int), (mvM w h M m).2) := by
  have hN : w * h ≤ 36 := Nat.mul_le_mul hw6 hh
  obtain ⟨p1, p2, p3⟩ := pts_facts w (w * h) M hN
  have p4 := pts_pos w (w * h) M hM hl
  have e : ∀ k, spec_l08Move.f k (w : Int) (h : Int) (M : Int) (m : Int) = (spec_l08Cells.f k (w : Int) (M : Int)).bind fun t => spec_l08Move.l0 k (w : Int) (h : Int) (m : Int) [] t (t.length : Int) 0 := fun k => rfl
  refine Ev.congr e ?_
  refine Ev.bind (l08Cells_f w h M hw hw6 hh hl) ?_
  exact l08Move_l w h m hm 0 _ (by omega) (fun q hq => ⟨⟨by have := (p1 q hq).1; omega, by have := (p1 q hq).1; omega⟩, by have := (p1 q hq).2; omega, by have := (p1 q hq).2; omega⟩) _ _ 0 [] rfl (by omega) (by simp) (l08Put_f w h m hN _ p4 (by omega) p1 p2)

/-- Two rows in strictly ascending order with the same members are one. -/
theorem asc_ext : ∀ (a b : List Int), a.Pairwise (· < ·) → b.Pairwise (· < ·) → (∀ z, z ∈ a ↔ z ∈ b) → a = b
  | [], [], _, _, _ => rfl
  | [], y :: b, _, _, h => absurd ((h y).mpr (by simp)) (by simp)
  | x :: a, [], _, _, h => absurd ((h x).mp (by simp)) (by simp)
  | x :: a, y :: b, ha, hb, h => by
    rw [List.pairwise_cons] at ha hb
    have e : x = y := by
      rcases List.mem_cons.mp ((h x).mp (by simp)) with e | e
      · exact e
      · rcases List.mem_cons.mp ((h y).mpr (by simp)) with e2 | e2
        · exact e2.symm
        · have h1 := hb.1 x e
          have h2 := ha.1 y e2
          omega
    subst e
    rw [asc_ext a b ha.2 hb.2 fun z => ?_]
    constructor
    · intro hz
      rcases List.mem_cons.mp ((h z).mp (List.mem_cons_of_mem _ hz)) with e | e
      · subst e; have := ha.1 z hz; omega
      · exact e
    · intro hz
      rcases List.mem_cons.mp ((h z).mpr (List.mem_cons_of_mem _ hz)) with e | e
      · subst e; have := hb.1 z hz; omega
      · exact e
theorem compactUpTo_facts (d : Array Int) (hs : ∀ i j, i ≤ j → j < d.size → d[i]! ≤ d[j]!) (m : Nat) : m ≤ d.size → (∀ z, z ∈ Go.Lib.compactUpTo d m ↔ ∃ j, j < m ∧ d[j]! = z) ∧ (Go.Lib.compactUpTo d m).Pairwise (· < ·) := by
  induction m with
  | zero => intro _; simp [Go.Lib.compactUpTo]
  | succ m ih =>
    intro hm
    obtain ⟨h1, h2⟩ := ih (by omega)
    rw [Go.Lib.compactUpTo_succ]
    by_cases hk : Go.Lib.keeps d m = true
    · rw [if_pos hk]
      have hlt : ∀ z ∈ Go.Lib.compactUpTo d m, z < d[m]! := by
        intro z hz
        obtain ⟨j, hj, rfl⟩ := (h1 z).mp hz
        have hk' := hk
        simp only [Go.Lib.keeps, decide_eq_true_eq] at hk'
        have e1 := hs j (m - 1) (by omega) (by omega)
        have e2 := hs (m - 1) m (by omega) (by omega)
        rcases hk' with e | e
        · omega
        · have : d[m - 1]! ≠ d[m]! := fun e3 => e e3.symm
          omega
      constructor
      · intro z
        rw [List.mem_append, h1, List.mem_singleton]
        constructor
        · rintro (⟨j, hj, rfl⟩ | rfl)
          · exact ⟨j, by omega, rfl⟩
          · exact ⟨m, by omega, rfl⟩
        · rintro ⟨j, hj, rfl⟩
          by_cases e : j = m
          · subst e; exact .inr rfl
          · exact .inl ⟨j, by omega, rfl⟩
      · rw [List.pairwise_append]
        refine ⟨h2, by simp, fun a ha b hb => ?_⟩
        rw [List.mem_singleton] at hb
        subst hb
        exact hlt a ha
    · rw [if_neg hk, List.append_nil]
      refine ⟨fun z => ?_, h2⟩
      rw [h1]
      constructor
      · rintro ⟨j, hj, rfl⟩
        exact ⟨j, by omega, rfl⟩
      · rintro ⟨j, hj, rfl⟩
        by_cases e : j = m
        · subst e
          have hk' : ¬ (j = 0 ∨ d[j]! ≠ d[j - 1]!) := by simpa [Go.Lib.keeps] using hk
          have e1 : d[j]! = d[j - 1]! := Decidable.byContradiction fun e => hk' (.inr e)
          have e2 : j ≠ 0 := fun e => hk' (.inl e)
          exact ⟨j - 1, by omega, e1.symm⟩
        · exact ⟨j, by omega, rfl⟩
theorem sorted_compact (l : List Int) : (∀ z, z ∈ Go.Lib.compact (l.mergeSort fun x y => decide (x ≤ y)) ↔ z ∈ l) ∧ (Go.Lib.compact (l.mergeSort fun x y => decide (x ≤ y))).Pairwise (· < ·) := by
  have hp : (l.mergeSort fun x y => decide (x ≤ y)).Pairwise fun a b => decide (a ≤ b) = true := List.pairwise_mergeSort (fun a b c h1 h2 => by simp only [decide_eq_true_eq] at *; omega) (fun a b => by simp only [Bool.or_eq_true, decide_eq_true_eq]; omega) l
  have hm : ∀ z, z ∈ (l.mergeSort fun x y => decide (x ≤ y)) ↔ z ∈ l := fun z => List.mem_mergeSort
  generalize (l.mergeSort fun x y => decide (x ≤ y)) = s at hp hm ⊢
  have hs : ∀ i j, i ≤ j → j < s.toArray.size → s.toArray[i]! ≤ s.toArray[j]! := by
    intro i j hij hj
    have hj' : j < s.length := by simpa using hj
    rw [getElem!_pos s.toArray i (by simp; omega), getElem!_pos s.toArray j hj]
    by_cases e : i = j
    · subst e; exact Int.le_refl _
    · have := (List.pairwise_iff_getElem.mp hp) i j (by omega) hj' (by omega)
      simpa using this
  obtain ⟨h1, h2⟩ := compactUpTo_facts s.toArray hs s.length (by simp)
  refine ⟨fun z => ?_, h2⟩
  show z ∈ Go.Lib.compactUpTo s.toArray s.length ↔ _
  rw [h1, ← hm]
  constructor
  · rintro ⟨j, hj, rfl⟩
    rw [getElem!_pos s.toArray j (by simpa using hj)]
    simp
  · intro hz
    obtain ⟨j, hj, e⟩ := List.mem_iff_getElem.mp hz
    refine ⟨j, hj, ?_⟩
    rw [getElem!_pos s.toArray j (by simpa using hj)]
    simpa using e

def insP (l : List Int) (x : Int) : List Int := l.filter (fun y => decide (y < x)) ++ x :: l.filter (fun y => decide (x < y))
theorem insP_mem (l : List Int) (x z : Int) : z ∈ insP l x ↔ z = x ∨ z ∈ l := by
  unfold insP
  simp only [List.mem_append, List.mem_filter, List.mem_cons, decide_eq_true_eq]
  constructor
  · rintro (⟨h, _⟩ | h | ⟨h, _⟩)
    · exact .inr h
    · exact .inl h
    · exact .inr h
  · rintro (h | h)
    · exact .inr (.inl h)
    · by_cases e : z = x
      · exact .inr (.inl e)
      · by_cases e2 : z < x
        · exact .inl ⟨h, e2⟩
        · exact .inr (.inr ⟨h, by omega⟩)
theorem insP_asc (l : List Int) (x : Int) (h : l.Pairwise (· < ·)) : (insP l x).Pairwise (· < ·) := by
  unfold insP
  rw [List.pairwise_append, List.pairwise_cons]
  refine ⟨h.filter _, ⟨fun a ha => by simpa using (List.mem_filter.mp ha).2, h.filter _⟩, fun a ha b hb => ?_⟩
  have h1 : a < x := by simpa using (List.mem_filter.mp ha).2
  rcases List.mem_cons.mp hb with rfl | hb
  · exact h1
  · have h2 : x < b := by simpa using (List.mem_filter.mp hb).2
    omega
theorem insP_len (l : List Int) (x : Int) : (insP l x).length ≤ l.length + 1 := by
  unfold insP
  rw [List.length_append, List.length_cons]
  induction l with
  | nil => simp
  | cons a r ih =>
    simp only [List.filter_cons, List.length_cons]
    by_cases h1 : a < x
    · have h2 : ¬ x < a := by omega
      simp only [h1, h2, decide_true, decide_false, if_true, Bool.false_eq_true, if_false, List.length_cons]
      omega
    · by_cases h2 : x < a
      · simp only [h1, h2, decide_true, decide_false, if_true, Bool.false_eq_true, if_false, List.length_cons]
        omega
      · simp only [h1, h2, decide_true, decide_false, if_true, Bool.false_eq_true, if_false]
        omega
theorem ins_at (l : List Int) (x : Int) (h : l.Pairwise (· < ·)) (i : Nat) (hi : i ≤ l.length) (hlo : ∀ j (hj : j < l.length), j < i → l[j] < x) (hhi : ∀ j (hj : j < l.length), i ≤ j → x < l[j]) : l.take i ++ [x] ++ l.drop i = insP l x := by
  refine asc_ext _ _ ?_ (insP_asc l x h) (fun z => ?_)
  · rw [List.append_assoc, List.pairwise_append, List.singleton_append, List.pairwise_cons]
    have g1 : ∀ a ∈ l.take i, a < x := by
      intro a ha
      obtain ⟨j, hj, rfl⟩ := List.mem_iff_getElem.mp ha
      rw [List.length_take] at hj
      rw [List.getElem_take]
      exact hlo j (by omega) (by omega)
    have g2 : ∀ a ∈ l.drop i, x < a := by
      intro a ha
      obtain ⟨j, hj, rfl⟩ := List.mem_iff_getElem.mp ha
      rw [List.length_drop] at hj
      rw [List.getElem_drop]
      exact hhi (i + j) (by omega) (by omega)
    refine ⟨h.sublist (List.take_sublist _ _), ⟨g2, h.sublist (List.drop_sublist _ _)⟩, fun a ha b hb => ?_⟩
    rcases List.mem_cons.mp hb with rfl | hb
    · exact g1 a ha
    · have := g1 a ha
      have := g2 b hb
      omega
  · rw [insP_mem, List.append_assoc, List.mem_append, List.singleton_append, List.mem_cons]
    have e : z ∈ l ↔ z ∈ l.take i ∨ z ∈ l.drop i := by rw [← List.mem_append, List.take_append_drop]
    rw [e]
    constructor
    · rintro (h | h | h)
      · exact .inr (.inl h)
      · exact .inl h
      · exact .inr (.inr h)
    · rintro (h | h | h)
      · exact .inr (.inl h)
      · exact .inl h
      · exact .inr (.inr h)
theorem ins_l (l : List Int) (x : Int) (hl : l.length ≤ 1000000) (h : l.Pairwise (· < ·)) : ∀ i, i ≤ l.length → (∀ j (hj : j < l.length), i ≤ j → x < l[j]) → Ev (fun k => spec_l17Insert.l0 k l x (i : Int)) (insP l x) := by
  intro i
  induction i with
  | zero =>
    intro hi hhi
    have e := ins_at l x h 0 hi (fun j _ hj => absurd hj (Nat.not_lt_zero _)) hhi
    refine Ev.step (f := fun _ => some (insP l x)) (fun k => ?_) (Ev.now _)
    rw [← e]
    simp [spec_l17Insert.l0]
    omega
  | succ i ih =>
    intro hi hhi
    have hlt : i < l.length := by omega
    have e0 : wrap64 (((i + 1 : Nat) : Int) - 1) = (i : Int) := by rw [w64 (by omega) (by omega)]; omega
    have hpos : (((i + 1 : Nat) : Int) > 0) = True := eq_true (by omega)
    by_cases c1 : l[i] > x
    · refine Ev.step (fun k => ?_) (ih (by omega) (fun j hj hij => ?_))
      · simp only [spec_l17Insert.l0, hpos, if_true, e0, nn_t, lt_t hlt, rd_get l i hlt, c1]
      · by_cases e : j = i
        · subst e; exact c1
        · exact hhi j hj (by omega)
    · by_cases c2 : l[i] = x
      · refine Ev.step (f := fun _ => some (insP l x)) (fun k => ?_) (Ev.now _)
        have : insP l x = l := asc_ext _ _ (insP_asc l x h) h fun z => by
          rw [insP_mem]
          constructor
          · rintro (rfl | h)
            · rw [← c2]; exact List.getElem_mem hlt
            · exact h
          · exact .inr
        rw [this]
        simp only [spec_l17Insert.l0, hpos, if_true, e0, nn_t, lt_t hlt, rd_get l i hlt, c1, if_false]
        rw [if_pos c2]
      · have e := ins_at l x h (i + 1) hi (fun j hj hij => by
          by_cases e : j = i
          · subst e; omega
          · have := (List.pairwise_iff_getElem.mp h) j i hj hlt (by omega)
            omega) hhi
        refine Ev.step (f := fun _ => some (insP l x)) (fun k => ?_) (Ev.now _)
        rw [← e]
        have h4 : ((0 : Int) ≤ ((i + 1 : Nat) : Int)) = True := nn_t _
        have h5 : (((i + 1 : Nat) : Int) ≤ (l.length : Int)) = True := eq_true (by omega)
        have h6 : (([] : List Int).length + (l.take (i + 1)).length < 17592186044416) = True := eq_true (by simp; omega)
        have h7 : ((([] : List Int) ++ l.take (i + 1)).length < 17592186044416) = True := eq_true (by simp; omega)
        have h8 : (([] ++ l.take (i + 1) ++ [x]).length + (l.drop (i + 1)).length < 17592186044416) = True := eq_true (by simp; omega)
        simp only [spec_l17Insert.l0, hpos, if_true, e0, nn_t, lt_t hlt, rd_get l i hlt, c1, c2, if_false, Option.bind_some, h5, Int.toNat_natCast, h6]
        simp only [h7, h8, if_true]
        simp only [List.nil_append]
theorem ins_f (l : List Int) (x : Int) (hl : l.length ≤ 1000000) (h : l.Pairwise (· < ·)) : Ev (fun k => spec_l17Insert.f k l x) (insP l x) :=
  ins_l l x hl h l.length (Nat.le_refl _) (fun j hj hij => absurd hj (by omega))
theorem insF_facts (xs : List Int) : ∀ acc : List Int, acc.Pairwise (· < ·) → (xs.foldl insP acc).Pairwise (· < ·) ∧ (∀ z, z ∈ xs.foldl insP acc ↔ z ∈ xs ∨ z ∈ acc) ∧ (xs.foldl insP acc).length ≤ acc.length + xs.length := by
  induction xs with
  | nil => intro acc h; exact ⟨h, fun z => by simp, by simp⟩
  | cons x r ih =>
    intro acc h
    obtain ⟨h1, h2, h3⟩ := ih (insP acc x) (insP_asc acc x h)
    rw [List.foldl_cons]
    refine ⟨h1, fun z => ?_, by have := insP_len acc x; rw [List.length_cons]; omega⟩
    rw [h2, insP_mem, List.mem_cons]
    constructor
    · rintro (h | h | h)
      · exact .inl (.inr h)
      · exact .inl (.inl h)
      · exact .inr h
    · rintro ((h | h) | h)
      · exact .inr (.inl h)
      · exact .inl h
      · exact .inr (.inr h)

def nxt (o : Option Nat) : List Int := match o with | some b => if b = 0 then [] else [(b : Int)] | none => []
theorem nxt_len (o : Option Nat) : (nxt o).length ≤ 1 := by
  unfold nxt
  split
  · split <;> simp
  · simp
def tryS (w h F x y : Nat) : List Nat → Nat → Option Nat
  | [], a => some a
  | c :: r, a => if c % w + x ≥ w then none else if c / w + y ≥ h then none else if F.testBit ((c / w + y) * w + c % w + x) = true then tryS w h F x y r (a ||| 2 ^ ((c / w + y) * w + c % w + x)) else none
/-- A mask's places within the free cells: row by row, place by place. -/
def rowS (w h F : Nat) (cs : List Nat) (y x d : Nat) : List Int := (List.range' x d).flatMap fun x => nxt (tryS w h F x y cs 0)
def allS (w h F : Nat) (cs : List Nat) (y d : Nat) : List Int := (List.range' y d).flatMap fun y => rowS w h F cs y 0 w
theorem rowS_len (w h F : Nat) (cs : List Nat) (y d : Nat) : ∀ x, (rowS w h F cs y x d).length ≤ d := by
  induction d with
  | zero => intro x; simp [rowS]
  | succ d ih =>
    intro x
    unfold rowS
    rw [List.range'_succ, List.flatMap_cons, List.length_append]
    have := nxt_len (tryS w h F x y cs 0)
    have h2 := ih (x + 1)
    unfold rowS at h2
    omega
theorem allS_len (w h F : Nat) (hw : w ≤ 6) (cs : List Nat) (d : Nat) : ∀ y, (allS w h F cs y d).length ≤ 6 * d := by
  induction d with
  | zero => intro y; simp [allS]
  | succ d ih =>
    intro y
    unfold allS
    rw [List.range'_succ, List.flatMap_cons, List.length_append]
    have := rowS_len w h F cs y w 0
    have h2 := ih (y + 1)
    unfold allS at h2
    omega
theorem rowS_succ (w h F : Nat) (cs : List Nat) (y x d : Nat) : rowS w h F cs y x (d + 1) = nxt (tryS w h F x y cs 0) ++ rowS w h F cs y (x + 1) d := by
  unfold rowS
  rw [List.range'_succ, List.flatMap_cons]
theorem allS_succ (w h F : Nat) (cs : List Nat) (y d : Nat) : allS w h F cs y (d + 1) = rowS w h F cs y 0 w ++ allS w h F cs (y + 1) d := by
  unfold allS
  rw [List.range'_succ, List.flatMap_cons]
/-- a < 2 ^ N, behind a name. -/
def lt2 (a N : Nat) : Prop := a < 2 ^ N
theorem lt2_zero (N : Nat) : lt2 0 N := Nat.pow_pos (by omega)
theorem lt2_or {a e N : Nat} (hN : N ≤ 36) (ha : lt2 a N) (he : e < N) : lt2 (a ||| 2 ^ e) N ∧ shl .i64 1 (e : Int) = ((2 ^ e : Nat) : Int) ∧ Go.bits .or .i64 (a : Int) ((2 ^ e : Nat) : Int) = ((a ||| 2 ^ e : Nat) : Int) := by
  have h1 : 2 ^ e < 2 ^ N := Nat.pow_lt_pow_right (by omega) he
  have h2 : (2 : Nat) ^ N ≤ 2 ^ 36 := Nat.pow_le_pow_right (by omega) hN
  unfold lt2 at ha ⊢
  exact ⟨Nat.or_lt_two_pow ha h1, shl_one e (by omega), i64_or a (2 ^ e) (by omega) (by omega)⟩
theorem lt2_lt {a N : Nat} (hN : N ≤ 36) (ha : lt2 a N) : a < 9223372036854775808 := by
  have h2 : (2 : Nat) ^ N ≤ 2 ^ 36 := Nat.pow_le_pow_right (by omega) hN
  unfold lt2 at ha
  omega
set_option linter.unusedSectionVars false
section
variable {w h F : Nat} (hw : 1 ≤ w) (hw6 : w ≤ 6) (hh : h ≤ 6) (hF : F < 9223372036854775808) {cs : List Nat} (hcs : ∀ c ∈ cs, c < w * h) (hcl : cs.length ≤ 36)
include hw hw6 hh hF hcs hcl
theorem cell_at {i x y : Nat} (hi : i < cs.length) (hx : x < w) (hy : y < h) : (rd_T46 (cs.map (ptOf w)) (i : Int)).f0 = ((cs[i] % w : Nat) : Int) ∧ (rd_T46 (cs.map (ptOf w)) (i : Int)).f1 = ((cs[i] / w : Nat) : Int) ∧ wrap64 (((cs[i] % w : Nat) : Int) + (x : Int)) = ((cs[i] % w + x : Nat) : Int) ∧ wrap64 (((cs[i] / w : Nat) : Int) + (y : Int)) = ((cs[i] / w + y : Nat) : Int) ∧ (¬ cs[i] / w + y ≥ h → ¬ cs[i] % w + x ≥ w → wrap64 (wrap64 (wrap64 (((cs[i] / w + y : Nat) : Int) * (w : Int)) + ((cs[i] % w : Nat) : Int)) + (x : Int)) = (((cs[i] / w + y) * w + cs[i] % w + x : Nat) : Int) ∧ (cs[i] / w + y) * w + cs[i] % w + x < w * h) := by
  have hc := hcs cs[i] (List.getElem_mem hi)
  have hN : w * h ≤ 36 := Nat.mul_le_mul hw6 hh
  have e : rd_T46 (cs.map (ptOf w)) (i : Int) = ptOf w cs[i] := by rw [rdP_get _ i (by rw [List.length_map]; exact hi), List.getElem_map]
  have h1 : cs[i] % w < w := Nat.mod_lt _ (by omega)
  have h2 : cs[i] / w ≤ cs[i] := Nat.div_le_self _ _
  rw [e]
  refine ⟨rfl, rfl, ?_, ?_, fun g1 g2 => ?_⟩
  · generalize cs[i] % w = u at *
    rw [show (u : Int) + (x : Int) = ((u + x : Nat) : Int) by simp, w64n _ (by omega)]
  · generalize cs[i] / w = v at *
    rw [show (v : Int) + (y : Int) = ((v + y : Nat) : Int) by simp, w64n _ (by omega)]
  · generalize cs[i] % w = u at *
    generalize cs[i] / w = v at *
    have hl : (v + y) * w + (u + x) < w * h := idx_lt (by omega) (by omega)
    have e1 : ((v + y : Nat) : Int) * (w : Int) = (((v + y) * w : Nat) : Int) := by rw [Int.natCast_mul]
    rw [e1]
    generalize (v + y) * w = z at *
    rw [w64n z (by omega), show (z : Int) + (u : Int) = ((z + u : Nat) : Int) by simp, w64n _ (by omega), show ((z + u : Nat) : Int) + (x : Int) = ((z + u + x : Nat) : Int) by simp, w64n _ (by omega)]
    exact ⟨rfl, by omega⟩
theorem imp3 (M m x y : Nat) (hx : x < w) (hy : y < h) (turn : Bool) (out R : List Int) (ho : out.length ≤ 1000000) (d : Nat) : ∀ (i a : Nat), cs.length - i = d → i ≤ cs.length → lt2 a (w * h) →
    Ev (fun k => impl_layings.l2 k (w : Int) (h : Int) (F : Int) (M : Int) turn (out ++ nxt (tryS w h F x y (cs.drop i) a)) (cs.map (ptOf w)) (y : Int) (m : Int) (h : Int) (y : Int) (w : Int) ((x + 1 : Nat) : Int)) R →
    Ev (fun k => impl_layings.l3 k (w : Int) (h : Int) (F : Int) (M : Int) turn out (cs.map (ptOf w)) (y : Int) (x : Int) (a : Int) (m : Int) (h : Int) (y : Int) (w : Int) (x : Int) (cs.length : Int) (i : Int)) R := by
  have hN : w * h ≤ 36 := Nat.mul_le_mul hw6 hh
  have hol : (out.length < 17592186044416) = True := eq_true (by omega)
  have hx64 := w1 (show x ≤ 140737488355328 by omega)
  induction d with
  | zero =>
    intro i a hd hi ha H
    rw [List.drop_of_length_le (by omega)] at H
    refine Ev.step (fun k => ?_) H
    simp only [impl_layings.l3, lt_f (show cs.length ≤ i by omega), if_false, hx64, tryS, nxt]
    by_cases h0 : a = 0
    · subst h0
      simp
    · rw [if_neg (by omega), if_neg h0]
      simp only [hol, if_true]
  | succ d ih =>
    intro i a hd hi ha H
    have hlt : i < cs.length := by omega
    have hi1 : cs.length - (i + 1) = d := by omega
    have hi2 : i + 1 ≤ cs.length := by omega
    have hi3 := w1 (show i ≤ 140737488355328 by omega)
    have hlt2 : ((i : Int) < (((cs.map (ptOf w)).length : Nat) : Int)) = True := by rw [List.length_map]; exact lt_t hlt
    rw [List.drop_eq_getElem_cons hlt, tryS] at H
    obtain ⟨e1, e2, e3, e4, e5⟩ := cell_at hw hw6 hh hF hcs hcl hlt hx hy
    by_cases c0 : cs[i] % w + x ≥ w
    · rw [if_pos c0] at H
      simp only [nxt, List.append_nil] at H
      refine Ev.step (fun k => ?_) H
      have g0 : (((cs[i] % w + x : Nat) : Int) ≥ (w : Int)) = True := eq_true (Int.ofNat_le.mpr c0)
      simp only [impl_layings.l3, lt_t hlt, nn_t, hlt2, if_true, e1, e3, g0, hx64]
    · have g0 : (((cs[i] % w + x : Nat) : Int) ≥ (w : Int)) = False := eq_false (fun h => c0 (Int.ofNat_le.mp h))
      rw [if_neg c0] at H
      by_cases c1 : cs[i] / w + y ≥ h
      · rw [if_pos c1] at H
        simp only [nxt, List.append_nil] at H
        refine Ev.step (fun k => ?_) H
        have g1 : (((cs[i] / w + y : Nat) : Int) ≥ (h : Int)) = True := eq_true (Int.ofNat_le.mpr c1)
        simp only [impl_layings.l3, lt_t hlt, nn_t, hlt2, if_true, e1, e2, e3, e4, g0, g1, if_false, hx64]
      · have g1 : (((cs[i] / w + y : Nat) : Int) ≥ (h : Int)) = False := eq_false (fun h => c1 (Int.ofNat_le.mp h))
        rw [if_neg c1] at H
        obtain ⟨e6, e7⟩ := e5 c1 c0
        have hi4 : (cs[i] / w + y) * w + cs[i] % w + x ≤ 64 := Nat.le_trans (Nat.le_of_lt e7) (Nat.le_trans hN (by decide))
        by_cases c2 : F.testBit ((cs[i] / w + y) * w + cs[i] % w + x) = true
        · rw [if_pos c2] at H
          obtain ⟨hor, hsh, hbo⟩ := lt2_or hN ha e7
          refine Ev.step (fun k => ?_) (ih (i + 1) (a ||| 2 ^ ((cs[i] / w + y) * w + cs[i] % w + x)) hi1 hi2 hor H)
          simp only [impl_layings.l3, lt_t hlt, nn_t, hlt2, if_true, e1, e2, e3, e4, e6, g0, g1, if_false, has_f F _ hF hi4, Option.bind_some, c2, hi3]
          rw [hsh, hbo]
        · rw [if_neg c2] at H
          simp only [nxt, List.append_nil] at H
          refine Ev.step (fun k => ?_) H
          simp only [impl_layings.l3, lt_t hlt, nn_t, hlt2, if_true, e1, e2, e3, e4, e6, g0, g1, if_false, has_f F _ hF hi4, Option.bind_some, c2, hx64, Bool.false_eq_true]
theorem imp2 (M m y : Nat) (hy : y < h) (turn : Bool) (R : List Int) (d : Nat) : ∀ (x : Nat) (out : List Int), w - x = d → x ≤ w → out.length + d ≤ 1000000 →
    Ev (fun k => impl_layings.l1 k (w : Int) (h : Int) (F : Int) (M : Int) turn (out ++ rowS w h F cs y x d) (cs.map (ptOf w)) (m : Int) (h : Int) ((y + 1 : Nat) : Int)) R →
    Ev (fun k => impl_layings.l2 k (w : Int) (h : Int) (F : Int) (M : Int) turn out (cs.map (ptOf w)) (y : Int) (m : Int) (h : Int) (y : Int) (w : Int) (x : Int)) R := by
  induction d with
  | zero =>
    intro x out hd hx ho H
    simp only [rowS, List.range'_zero, List.flatMap_nil, List.append_nil] at H
    refine Ev.step (fun k => ?_) H
    simp only [impl_layings.l2, lt_f (show w ≤ x by omega), if_false, w1 (show y ≤ 140737488355328 by omega)]
  | succ d ih =>
    intro x out hd hx ho H
    have hlt : x < w := by omega
    rw [rowS_succ, ← List.append_assoc] at H
    have hn := nxt_len (tryS w h F x y cs 0)
    refine Ev.step (fun k => ?_) (imp3 hw hw6 hh hF hcs hcl M m x y hlt hy turn out R (by omega) cs.length 0 0 rfl (by omega) (lt2_zero _) (ih (x + 1) (out ++ nxt (tryS w h F x y cs 0)) (by omega) (by omega) (by rw [List.length_append]; omega) H))
    simp only [impl_layings.l2, lt_t hlt, if_true, List.length_map]
    rfl
theorem imp1 (M m : Nat) (hm : m < 8) (turn : Bool) (R : List Int) (d : Nat) : ∀ (y : Nat) (out : List Int), h - y = d → y ≤ h → out.length + 6 * d ≤ 1000000 →
    Ev (fun k => impl_layings.l0 k (w : Int) (h : Int) (F : Int) (M : Int) turn (out ++ allS w h F cs y d) ((m + 1 : Nat) : Int)) R →
    Ev (fun k => impl_layings.l1 k (w : Int) (h : Int) (F : Int) (M : Int) turn out (cs.map (ptOf w)) (m : Int) (h : Int) (y : Int)) R := by
  induction d with
  | zero =>
    intro y out hd hy ho H
    simp only [allS, List.range'_zero, List.flatMap_nil, List.append_nil] at H
    refine Ev.step (fun k => ?_) H
    simp only [impl_layings.l1, lt_f (show h ≤ y by omega), if_false, w1 (show m ≤ 140737488355328 by omega)]
  | succ d ih =>
    intro y out hd hy ho H
    have hlt : y < h := by omega
    rw [allS_succ, ← List.append_assoc] at H
    have hn := rowS_len w h F cs y w 0
    refine Ev.step (fun k => ?_) (imp2 hw hw6 hh hF hcs hcl M m y hlt turn R w 0 out (by omega) (by omega) (by omega) (ih (y + 1) (out ++ rowS w h F cs y 0 w) (by omega) (by omega) (by rw [List.length_append]; omega) H))
    simp only [impl_layings.l1, lt_t hlt, if_true]
    rfl
end

theorem cellsOf_facts (N C : Nat) (hN : N ≤ 36) : (∀ c ∈ cellsOf N C, c < N) ∧ (cellsOf N C).length ≤ 36 ∧ (cellsOf N C).Pairwise (· < ·) := by
  refine ⟨fun c hc => ?_, ?_, (List.pairwise_lt_range' (s := 0) (n := N) 1).filter _⟩
  · have := (List.mem_range'_1.mp (List.mem_filter.mp hc).1).2
    omega
  · exact Nat.le_trans (List.length_filter_le _ _) (by simp; omega)
theorem place (w c x y : Nat) : (c / w + y) * w + c % w + x = c + (y * w + x) := by
  have h := Nat.div_add_mod c w
  have e : c / w * w = w * (c / w) := Nat.mul_comm _ _
  rw [Nat.add_mul, e]
  omega
theorem lt2_mono {a N M : Nat} (h : lt2 a N) (hM : N ≤ M) : lt2 a M := Nat.lt_of_lt_of_le h (Nat.pow_le_pow_right (by omega) hM)
theorem lt2_or' {a e N : Nat} (ha : lt2 a N) (he : e < N) : lt2 (a ||| 2 ^ e) N := Nat.or_lt_two_pow ha (Nat.pow_lt_pow_right (by omega) he)
theorem lt2_add {a e : Nat} (ha : lt2 a e) (he : e ≤ 36) : wrap64 ((a : Int) + shl .i64 1 (e : Int)) = ((a ||| 2 ^ e : Nat) : Int) := by
  have h2 : (2 : Nat) ^ e ≤ 2 ^ 36 := Nat.pow_le_pow_right (by omega) he
  unfold lt2 at ha
  have := Nat.or_two_pow_eq_add_of_lt ha
  rw [shl_one e (by omega), this, w64 (by omega) (by omega)]
  simp
theorem nxt_fold (b : Nat) (acc : List Int) : (nxt (some b)).foldl insP acc = if b = 0 then acc else insP acc (b : Int) := by
  unfold nxt
  by_cases h : b = 0
  · simp [h]
  · simp [h]
theorem step_bits {cs : List Nat} (hso : cs.Pairwise (· < ·)) {i : Nat} (hlt : i < cs.length) {a e s : Nat} (he : e = cs[i] + s) (hbi : lt2 a (cs[i] + s)) : ∀ c ∈ cs.drop (i + 1), lt2 (a ||| 2 ^ e) (c + s) := by
  intro c hc
  obtain ⟨j, hj, rfl⟩ := List.mem_iff_getElem.mp hc
  rw [List.length_drop] at hj
  rw [List.getElem_drop]
  have hlt3 := (List.pairwise_iff_getElem.mp hso) i (i + 1 + j) hlt (by omega) (by omega)
  refine lt2_or' (lt2_mono hbi (Nat.add_le_add_right (Nat.le_of_lt hlt3) _)) ?_
  rw [he]
  exact Nat.add_lt_add_right hlt3 _
section
variable {w h F : Nat} (hw : 1 ≤ w) (hw6 : w ≤ 6) (hh : h ≤ 6) (hF : F < 9223372036854775808) {cs : List Nat} (hcs : ∀ c ∈ cs, c < w * h) (hcl : cs.length ≤ 36) (hso : cs.Pairwise (· < ·))
include hw hw6 hh hF hcs hcl hso
theorem spc3 (x y : Nat) (hx : x < w) (hy : y < h) (acc R : List Int) (ho : acc.length ≤ 1000000) (hacc : acc.Pairwise (· < ·)) (d : Nat) : ∀ (i a : Nat), cs.length - i = d → i ≤ cs.length → lt2 a (w * h) → (∀ c ∈ cs.drop i, lt2 a (c + (y * w + x))) →
    Ev (fun k => spec_l17Shifts.l1 k (w : Int) (h : Int) (F : Int) (cs.map (ptOf w)) ((nxt (tryS w h F x y (cs.drop i) a)).foldl insP acc) (y : Int) ((x + 1 : Nat) : Int)) R →
    Ev (fun k => spec_l17Shifts.l2 k (w : Int) (h : Int) (F : Int) (cs.map (ptOf w)) acc (y : Int) (x : Int) (a : Int) (cs.length : Int) (i : Int)) R := by
  have hN : w * h ≤ 36 := Nat.mul_le_mul hw6 hh
  have hx64 := w1 (show x ≤ 140737488355328 by omega)
  have hm1 : ((-1 : Int) > 0) = False := eq_false (by omega)
  induction d with
  | zero =>
    intro i a hd hi ha hb H
    rw [List.drop_of_length_le (by omega)] at H
    rw [tryS, nxt_fold] at H
    by_cases h0 : a = 0
    · subst h0
      rw [if_pos rfl] at H
      refine Ev.step (fun k => ?_) H
      simp only [spec_l17Shifts.l2, lt_f (show cs.length ≤ i by omega), if_false, hx64]
      rfl
    · rw [if_neg h0] at H
      have hpos : ((a : Int) > 0) = True := eq_true (by omega)
      refine Ev.step (f := fun k => (spec_l17Insert.f k acc (a : Int)).bind fun t => spec_l17Shifts.l1 k (w : Int) (h : Int) (F : Int) (cs.map (ptOf w)) t (y : Int) ((x + 1 : Nat) : Int)) (fun k => ?_) (Ev.bind (ins_f acc (a : Int) ho hacc) H)
      simp only [spec_l17Shifts.l2, lt_f (show cs.length ≤ i by omega), if_false, hx64, hpos, if_true]
  | succ d ih =>
    intro i a hd hi ha hb H
    have hlt : i < cs.length := by omega
    have hi1 : cs.length - (i + 1) = d := by omega
    have hi2 : i + 1 ≤ cs.length := by omega
    have hi3 := w1 (show i ≤ 140737488355328 by omega)
    have hlt2 : ((i : Int) < (((cs.map (ptOf w)).length : Nat) : Int)) = True := by rw [List.length_map]; exact lt_t hlt
    have hbi := hb cs[i] (by rw [List.drop_eq_getElem_cons hlt]; exact List.mem_cons_self)
    rw [List.drop_eq_getElem_cons hlt, tryS] at H
    obtain ⟨e1, e2, e3, e4, e5⟩ := cell_at hw hw6 hh hF hcs hcl hlt hx hy
    by_cases c0 : cs[i] % w + x ≥ w
    · rw [if_pos c0] at H
      refine Ev.step (fun k => ?_) H
      have g0 : (((cs[i] % w + x : Nat) : Int) ≥ (w : Int)) = True := eq_true (Int.ofNat_le.mpr c0)
      simp only [spec_l17Shifts.l2, lt_t hlt, nn_t, hlt2, if_true, e1, e3, g0, hx64, hm1, if_false]
      rfl
    · have g0 : (((cs[i] % w + x : Nat) : Int) ≥ (w : Int)) = False := eq_false (fun h => c0 (Int.ofNat_le.mp h))
      rw [if_neg c0] at H
      by_cases c1 : cs[i] / w + y ≥ h
      · rw [if_pos c1] at H
        refine Ev.step (fun k => ?_) H
        have g1 : (((cs[i] / w + y : Nat) : Int) ≥ (h : Int)) = True := eq_true (Int.ofNat_le.mpr c1)
        simp only [spec_l17Shifts.l2, lt_t hlt, nn_t, hlt2, if_true, e1, e2, e3, e4, g0, g1, if_false, hx64, hm1]
        rfl
      · have g1 : (((cs[i] / w + y : Nat) : Int) ≥ (h : Int)) = False := eq_false (fun h => c1 (Int.ofNat_le.mp h))
        rw [if_neg c1] at H
        obtain ⟨e6, e7⟩ := e5 c1 c0
        have hi4 : (cs[i] / w + y) * w + cs[i] % w + x ≤ 36 := Nat.le_trans (Nat.le_of_lt e7) hN
        have hi5 : (cs[i] / w + y) * w + cs[i] % w + x ≤ 64 := Nat.le_trans hi4 (by decide)
        by_cases c2 : F.testBit ((cs[i] / w + y) * w + cs[i] % w + x) = true
        · rw [if_pos c2] at H
          have hadd := lt2_add (by rw [place]; exact hbi : lt2 a ((cs[i] / w + y) * w + cs[i] % w + x)) hi4
          have hor : lt2 (a ||| 2 ^ ((cs[i] / w + y) * w + cs[i] % w + x)) (w * h) := lt2_or' ha e7
          have hbn := step_bits hso hlt (place w cs[i] x y) hbi
          refine Ev.step (fun k => ?_) (ih (i + 1) (a ||| 2 ^ ((cs[i] / w + y) * w + cs[i] % w + x)) hi1 hi2 hor hbn H)
          simp only [spec_l17Shifts.l2, lt_t hlt, nn_t, hlt2, if_true, e1, e2, e3, e4, e6, g0, g1, if_false, shr_nat F _ hi5, bit_nat F _ hF, c2, hi3, hadd]
          rfl
        · rw [if_neg c2] at H
          refine Ev.step (fun k => ?_) H
          simp only [spec_l17Shifts.l2, lt_t hlt, nn_t, hlt2, if_true, e1, e2, e3, e4, e6, g0, g1, if_false, shr_nat F _ hi5, bit_nat F _ hF, c2, hx64, hm1, Bool.false_eq_true]
          rfl
theorem spc2 (y : Nat) (hy : y < h) (R : List Int) (d : Nat) : ∀ (x : Nat) (acc : List Int), w - x = d → x ≤ w → acc.length + d ≤ 1000000 → acc.Pairwise (· < ·) →
    Ev (fun k => spec_l17Shifts.l0 k (w : Int) (h : Int) (F : Int) (cs.map (ptOf w)) ((rowS w h F cs y x d).foldl insP acc) ((y + 1 : Nat) : Int)) R →
    Ev (fun k => spec_l17Shifts.l1 k (w : Int) (h : Int) (F : Int) (cs.map (ptOf w)) acc (y : Int) (x : Int)) R := by
  induction d with
  | zero =>
    intro x acc hd hx ho hacc H
    simp only [rowS, List.range'_zero, List.flatMap_nil, List.foldl_nil] at H
    refine Ev.step (fun k => ?_) H
    simp only [spec_l17Shifts.l1, lt_f (show w ≤ x by omega), if_false, w1 (show y ≤ 140737488355328 by omega)]
  | succ d ih =>
    intro x acc hd hx ho hacc H
    have hlt : x < w := by omega
    rw [rowS_succ, List.foldl_append] at H
    have hn := nxt_len (tryS w h F x y cs 0)
    obtain ⟨f1, f2, f3⟩ := insF_facts (nxt (tryS w h F x y cs 0)) acc hacc
    refine Ev.step (fun k => ?_) (spc3 hw hw6 hh hF hcs hcl hso x y hlt hy acc R (by omega) hacc cs.length 0 0 rfl (by omega) (lt2_zero _) (fun c hc => lt2_zero _) (ih (x + 1) ((nxt (tryS w h F x y cs 0)).foldl insP acc) (by omega) (by omega) (by omega) f1 H))
    simp only [spec_l17Shifts.l1, lt_t hlt, if_true, List.length_map]
    rfl
theorem spc1 (d : Nat) : ∀ (y : Nat) (acc : List Int), h - y = d → y ≤ h → acc.length + 6 * d ≤ 1000000 → acc.Pairwise (· < ·) →
    Ev (fun k => spec_l17Shifts.l0 k (w : Int) (h : Int) (F : Int) (cs.map (ptOf w)) acc (y : Int)) ((allS w h F cs y d).foldl insP acc) := by
  induction d with
  | zero =>
    intro y acc hd hy ho hacc
    simp only [allS, List.range'_zero, List.flatMap_nil, List.foldl_nil]
    refine Ev.step (f := fun _ => some acc) (fun k => ?_) (Ev.now _)
    simp only [spec_l17Shifts.l0, lt_f (show h ≤ y by omega), if_false]
  | succ d ih =>
    intro y acc hd hy ho hacc
    have hlt : y < h := by omega
    rw [allS_succ, List.foldl_append]
    have hn := rowS_len w h F cs y w 0
    obtain ⟨f1, f2, f3⟩ := insF_facts (rowS w h F cs y 0 w) acc hacc
    refine Ev.step (fun k => ?_) (spc2 hw hw6 hh hF hcs hcl hso y hlt _ w 0 acc (by omega) (by omega) (by omega) hacc (ih (y + 1) ((rowS w h F cs y 0 w).foldl insP acc) (by omega) (by omega) (by omega) f1))
    simp only [spec_l17Shifts.l0, lt_t hlt, if_true]
    rfl
end
def shL (w h F C : Nat) : List Int := allS w h F (cellsOf (w * h) C) 0 h
theorem shL_len (w h F C : Nat) (hw6 : w ≤ 6) (hh : h ≤ 6) : (shL w h F C).length ≤ 36 := by
  have := allS_len w h F hw6 (cellsOf (w * h) C) h 0
  unfold shL
  omega
theorem l17Shifts_f (w h F C : Nat) (hw : 1 ≤ w) (hw6 : w ≤ 6) (hh : h ≤ 6) (hF : F < 9223372036854775808) (hC : C < 2 ^ (w * h)) : Ev (fun k => spec_l17Shifts.f k (w : Int) (h : Int) (F : Int) (C : Int)) ((shL w h F C).foldl insP []) := by
  obtain ⟨c1, c2, c3⟩ := cellsOf_facts (w * h) C (Nat.mul_le_mul hw6 hh)
  have e : ∀ k, spec_l17Shifts.f k (w : Int) (h : Int) (F : Int) (C : Int) = (spec_l08Cells.f k (w : Int) (C : Int)).bind fun t => spec_l17Shifts.l0 k (w : Int) (h : Int) (F : Int) t [] 0 := fun k => rfl
  refine Ev.congr e ?_
  refine Ev.bind (l08Cells_f w h C hw hw6 hh hC) ?_
  exact spc1 hw hw6 hh hF c1 c2 c3 h 0 [] (by omega) (by omega) (by simp; omega) List.Pairwise.nil

def layL (w h F M m : Nat) : List Int := if (mvM w h M m).2 = true then shL w h F (mvM w h M m).1 else []
theorem layL_len (w h F M m : Nat) (hw6 : w ≤ 6) (hh : h ≤ 6) : (layL w h F M m).length ≤ 36 := by
  unfold layL
  split
  · exact shL_len w h F _ hw6 hh
  · simp
def impOut (w h F M : Nat) (turn : Bool) (m d : Nat) : List Int := (List.range' m d).flatMap fun m => if m = 0 ∨ turn = true then layL w h F M m else []
theorem impOut_len (w h F M : Nat) (hw6 : w ≤ 6) (hh : h ≤ 6) (turn : Bool) (d : Nat) : ∀ m, (impOut w h F M turn m d).length ≤ 36 * d := by
  induction d with
  | zero => intro m; simp [impOut]
  | succ d ih =>
    intro m
    unfold impOut
    rw [List.range'_succ, List.flatMap_cons, List.length_append]
    have h2 := ih (m + 1)
    unfold impOut at h2
    have h1 := layL_len w h F M m hw6 hh
    have h3 : (if m = 0 ∨ turn = true then layL w h F M m else []).length ≤ 36 := by
      split
      · exact h1
      · simp
    omega
theorem impOut_succ (w h F M : Nat) (turn : Bool) (m d : Nat) : impOut w h F M turn m (d + 1) = (if m = 0 ∨ turn = true then layL w h F M m else []) ++ impOut w h F M turn (m + 1) d := by
  unfold impOut
  rw [List.range'_succ, List.flatMap_cons]
/-- The places of a mask within free cells. -/
def laysOf (w h F M : Nat) (turn : Bool) : List Int := Go.Lib.compact ((impOut w h F M turn 0 8).mergeSort fun x y => decide (x ≤ y))
section
variable {w h F M : Nat} (hw : 1 ≤ w) (hw6 : w ≤ 6) (hh : h ≤ 6) (hF : F < 9223372036854775808) (hM : M ≠ 0) (hMl : lt2 M (w * h))
include hw hw6 hh hF hM hMl
theorem mvM_lt2 (m : Nat) : lt2 (mvM w h M m).1 (w * h) := mvM_lt w h M m hw6 hh hM hMl
theorem imp0 (turn : Bool) (d : Nat) : ∀ (m : Nat) (out : List Int), 8 - m = d → m ≤ 8 → out.length + 36 * d ≤ 1000000 →
    Ev (fun k => impl_layings.l0 k (w : Int) (h : Int) (F : Int) (M : Int) turn out (m : Int)) (Go.Lib.compact ((out ++ impOut w h F M turn m d).mergeSort fun x y => decide (x ≤ y))) := by
  have hN : w * h ≤ 36 := Nat.mul_le_mul hw6 hh
  induction d with
  | zero =>
    intro m out hd hm ho
    have e : m = 8 := by omega
    subst e
    simp only [impOut, List.range'_zero, List.flatMap_nil, List.append_nil]
    refine Ev.step (f := fun _ => some (Go.Lib.compact (out.mergeSort fun x y => decide (x ≤ y)))) (fun k => ?_) (Ev.now _)
    have h8 : (((8 : Nat) : Int) < 8) = False := eq_false (by omega)
    have hol : (out.length < 4611686018427387904) = True := eq_true (by omega)
    simp only [impl_layings.l0, h8, if_false, slices_Sort_int_int.f, slices_Compact_int_int.f, hol, if_true, Option.bind_some]
  | succ d ih =>
    intro m out hd hm ho
    have hlt : m < 8 := by omega
    have hl8 : ((m : Int) < 8) = True := eq_true (by omega)
    have hm1 := w1 (show m ≤ 140737488355328 by omega)
    have hi1 : 8 - (m + 1) = d := by omega
    have hi2 : m + 1 ≤ 8 := by omega
    have hol1 : out.length + 36 * d ≤ 1000000 := by omega
    have hlL := layL_len w h F M m hw6 hh
    rw [impOut_succ, ← List.append_assoc]
    have skip : ∀ c : Int, Ev (fun k => impl_layings.l0 k (w : Int) (h : Int) (F : Int) (M : Int) turn out ((m + 1 : Nat) : Int)) (Go.Lib.compact ((out ++ impOut w h F M turn (m + 1) d).mergeSort fun x y => decide (x ≤ y))) → Ev (fun k => impl_layings.j1 k (w : Int) (h : Int) (F : Int) (M : Int) turn out c (m : Int) true) (Go.Lib.compact ((out ++ impOut w h F M turn (m + 1) d).mergeSort fun x y => decide (x ≤ y))) := by
      intro c H
      refine Ev.step (fun k => ?_) H
      simp only [impl_layings.j1, if_true, hm1]
    have run : (mvM w h M m).2 = true → Ev (fun k => impl_layings.j1 k (w : Int) (h : Int) (F : Int) (M : Int) turn out (((mvM w h M m).1 : Nat) : Int) (m : Int) false) (Go.Lib.compact ((out ++ layL w h F M m ++ impOut w h F M turn (m + 1) d).mergeSort fun x y => decide (x ≤ y))) := by
      intro hb
      have hol2 : (out ++ layL w h F M m).length + 36 * d ≤ 1000000 := by rw [List.length_append]; omega
      have H := ih (m + 1) (out ++ layL w h F M m) hi1 hi2 hol2
      have hC := mvM_lt2 hw hw6 hh hF hM hMl m
      have el : layL w h F M m = shL w h F (mvM w h M m).1 := by unfold layL; rw [if_pos hb]
      rw [el] at H ⊢
      generalize (mvM w h M m).1 = C at H hC ⊢
      obtain ⟨c1, c2, c3⟩ := cellsOf_facts (w * h) C hN
      have hol3 : out.length + 6 * h ≤ 1000000 := by omega
      have := imp1 hw hw6 hh hF c1 c2 M m hlt turn _ h 0 out (Nat.sub_zero _) (Nat.zero_le _) hol3 H
      have hC' := lt2_lt hN hC
      refine Ev.step (f := fun k => (impl_cells.f k (w : Int) (h : Int) (C : Int)).bind fun t => impl_layings.l1 k (w : Int) (h : Int) (F : Int) (M : Int) turn out t (m : Int) (h : Int) 0) (fun k => ?_) (Ev.bind (cells_f w h C hw hw6 hh hC') this)
      simp only [impl_layings.j1, Bool.false_eq_true, if_false]
    refine Ev.step (f := fun k => (impl_movedMask.f k (w : Int) (h : Int) (M : Int) (m : Int)).bind fun bt => (if bt.2 = true then (if (m : Int) > 0 then (impl_layings.j1 k (w : Int) (h : Int) (F : Int) (M : Int) turn out bt.1 (m : Int) (!turn)) else (impl_layings.j1 k (w : Int) (h : Int) (F : Int) (M : Int) turn out bt.1 (m : Int) false)) else (impl_layings.j1 k (w : Int) (h : Int) (F : Int) (M : Int) turn out bt.1 (m : Int) true))) (fun k => ?_) (Ev.bind (movedMask_f w h M m hw hw6 hh hM hMl hlt) ?_)
    · simp only [impl_layings.l0, hl8, if_true]
    · by_cases hb : (mvM w h M m).2 = true
      · simp only [hb, if_true]
        by_cases h0 : m = 0
        · have hg : ((m : Int) > 0) = False := eq_false (by omega)
          simp only [hg, if_false]
          rw [if_pos (Or.inl h0)]
          exact run hb
        · have hg : ((m : Int) > 0) = True := eq_true (by omega)
          simp only [hg, if_true]
          cases turn with
          | true =>
            rw [if_pos (Or.inr rfl)]
            exact run hb
          | false =>
            rw [if_neg (by simp [h0]), List.append_nil]
            exact skip _ (ih (m + 1) out hi1 hi2 hol1)
      · have hb' : (mvM w h M m).2 = false := by simpa using hb
        have el : layL w h F M m = [] := by unfold layL; rw [if_neg hb]
        simp only [hb', Bool.false_eq_true, if_false]
        rw [el, ite_self, List.append_nil]
        exact skip _ (ih (m + 1) out hi1 hi2 hol1)
theorem layings_f (turn : Bool) : Ev (fun k => impl_layings.f k (w : Int) (h : Int) (F : Int) (M : Int) turn) (laysOf w h F M turn) := by
  have := imp0 hw hw6 hh hF hM hMl turn 8 0 [] (by omega) (by omega) (by simp)
  rw [List.nil_append] at this
  unfold laysOf
  refine Ev.congr (fun k => ?_) this
  unfold impl_layings.f
  rfl
end
theorem laysOf_facts (w h F M : Nat) (hw6 : w ≤ 6) (hh : h ≤ 6) (turn : Bool) : (laysOf w h F M turn).length ≤ 288 := by
  have h1 := impOut_len w h F M hw6 hh turn 8 0
  have h2 := slices_Compact_int_int.short ((impOut w h F M turn 0 8).mergeSort fun x y => decide (x ≤ y))
  rw [List.length_mergeSort] at h2
  unfold laysOf
  omega

section
variable {w h F M : Nat} (hw : 1 ≤ w) (hw6 : w ≤ 6) (hh : h ≤ 6) (hF : F < 9223372036854775808) (hM : M ≠ 0) (hMl : lt2 M (w * h))
include hw hw6 hh hF hM hMl
theorem spcL1 (turn : Bool) (m : Nat) (hm : m < 8) (R : List Int) (xs : List Int) (hxl : xs.length ≤ 36) (d : Nat) : ∀ (i : Nat) (acc : List Int), xs.length - i = d → i ≤ xs.length → acc.length + d ≤ 1000000 → acc.Pairwise (· < ·) →
    Ev (fun k => spec_l17Layings.l0 k (w : Int) (h : Int) (F : Int) (M : Int) turn ((xs.drop i).foldl insP acc) ((m + 1 : Nat) : Int)) R →
    Ev (fun k => spec_l17Layings.l1 k (w : Int) (h : Int) (F : Int) (M : Int) turn acc (m : Int) xs (xs.length : Int) (i : Int)) R := by
  induction d with
  | zero =>
    intro i acc hd hi ho hacc H
    rw [List.drop_of_length_le (by omega), List.foldl_nil] at H
    refine Ev.step (fun k => ?_) H
    simp only [spec_l17Layings.l1, lt_f (show xs.length ≤ i by omega), if_false, w1 (show m ≤ 140737488355328 by omega)]
  | succ d ih =>
    intro i acc hd hi ho hacc H
    have hlt : i < xs.length := by omega
    have hn := insP_len acc xs[i]
    rw [List.drop_eq_getElem_cons hlt, List.foldl_cons] at H
    refine Ev.step (f := fun k => (spec_l17Insert.f k acc xs[i]).bind fun t => spec_l17Layings.l1 k (w : Int) (h : Int) (F : Int) (M : Int) turn t (m : Int) xs (xs.length : Int) ((i + 1 : Nat) : Int)) (fun k => ?_) (Ev.bind (ins_f acc _ (by omega) hacc) (ih (i + 1) (insP acc xs[i]) (by omega) (by omega) (by omega) (insP_asc _ _ hacc) H))
    simp only [spec_l17Layings.l1, lt_t hlt, nn_t, if_true, rd_get xs i hlt, w1 (show i ≤ 140737488355328 by omega)]
def spcOut (w h F M m d : Nat) (acc : List Int) : List Int := (List.range' m d).foldl (fun acc m => ((layL w h F M m).foldl insP []).foldl insP acc) acc
omit hw hw6 hh hF hM hMl in
theorem spcOut_succ (m d : Nat) (acc : List Int) : spcOut w h F M m (d + 1) acc = spcOut w h F M (m + 1) d (((layL w h F M m).foldl insP []).foldl insP acc) := by
  unfold spcOut
  rw [List.range'_succ, List.foldl_cons]
/-- One motion's round. -/
theorem spc_round (turn : Bool) (m : Nat) (hm : m < 8) (acc R : List Int) (hol : acc.length + 36 ≤ 1000000) (hacc : acc.Pairwise (· < ·)) (H : Ev (fun k => spec_l17Layings.l0 k (w : Int) (h : Int) (F : Int) (M : Int) turn (((layL w h F M m).foldl insP []).foldl insP acc) ((m + 1 : Nat) : Int)) R) :
    Ev (fun k => spec_l17Layings.j1 k (w : Int) (h : Int) (F : Int) (M : Int) turn acc (m : Int) false) R := by
  have hm1 := w1 (show m ≤ 140737488355328 by omega)
  refine Ev.step (f := fun k => (spec_l08Move.f k (w : Int) (h : Int) (M : Int) (m : Int)).bind fun bt => (if bt.2 = true then ((spec_l17Shifts.f k (w : Int) (h : Int) (F : Int) bt.1).bind fun t296 => (spec_l17Layings.l1 k (w : Int) (h : Int) (F : Int) (M : Int) turn acc (m : Int) t296 (t296.length : Int) 0)) else (spec_l17Layings.l0 k (w : Int) (h : Int) (F : Int) (M : Int) turn acc (wrap64 ((m : Int) + 1))))) (fun k => ?_) (Ev.bind (l08Move_f w h M m hw hw6 hh hM hMl hm) ?_)
  · simp only [spec_l17Layings.j1, Bool.false_eq_true, if_false]
  · by_cases hb : (mvM w h M m).2 = true
    · have el : layL w h F M m = shL w h F (mvM w h M m).1 := by unfold layL; rw [if_pos hb]
      rw [el] at H
      simp only [hb, if_true]
      have hC := mvM_lt2 hw hw6 hh hF hM hMl m
      have hlen := shL_len w h F (mvM w h M m).1 hw6 hh
      obtain ⟨f1, f2, f3⟩ := insF_facts (shL w h F (mvM w h M m).1) [] List.Pairwise.nil
      have hl0 : ([] : List Int).length = 0 := rfl
      refine Ev.bind (l17Shifts_f w h F _ hw hw6 hh hF hC) ?_
      exact spcL1 hw hw6 hh hF hM hMl turn m hm R _ (by omega) _ 0 acc rfl (by omega) (by omega) hacc H
    · have hb' : (mvM w h M m).2 = false := by simpa using hb
      have el : layL w h F M m = [] := by unfold layL; rw [if_neg hb]
      rw [el] at H
      simp only [hb', Bool.false_eq_true, if_false, hm1]
      exact H
theorem spc_turn (d : Nat) : ∀ (m : Nat) (acc : List Int), 8 - m = d → m ≤ 8 → acc.length + 36 * d ≤ 1000000 → acc.Pairwise (· < ·) →
    Ev (fun k => spec_l17Layings.l0 k (w : Int) (h : Int) (F : Int) (M : Int) true acc (m : Int)) (spcOut w h F M m d acc) := by
  induction d with
  | zero =>
    intro m acc hd hm ho hacc
    have e : m = 8 := by omega
    subst e
    simp only [spcOut, List.range'_zero, List.foldl_nil]
    refine Ev.step (f := fun _ => some acc) (fun k => ?_) (Ev.now _)
    have h8 : (((8 : Nat) : Int) < 8) = False := eq_false (by omega)
    simp only [spec_l17Layings.l0, h8, if_false]
  | succ d ih =>
    intro m acc hd hm ho hacc
    have hlt : m < 8 := by omega
    have hl8 : ((m : Int) < 8) = True := eq_true (by omega)
    rw [spcOut_succ]
    obtain ⟨g1, g2, g3⟩ := insF_facts (layL w h F M m) [] List.Pairwise.nil
    obtain ⟨f1, f2, f3⟩ := insF_facts ((layL w h F M m).foldl insP []) acc hacc
    have hlL := layL_len w h F M m hw6 hh
    have hl0 : ([] : List Int).length = 0 := rfl
    have R := spc_round hw hw6 hh hF hM hMl true m hlt acc _ (by omega) hacc (ih (m + 1) (((layL w h F M m).foldl insP []).foldl insP acc) (by omega) (by omega) (by omega) f1)
    refine Ev.step (fun k => ?_) R
    simp only [spec_l17Layings.l0, hl8, if_true, Bool.not_true, ite_self]
theorem spc_still : Ev (fun k => spec_l17Layings.l0 k (w : Int) (h : Int) (F : Int) (M : Int) false [] 0) (((layL w h F M 0).foldl insP []).foldl insP []) := by
  have hfin : Ev (fun k => spec_l17Layings.l0 k (w : Int) (h : Int) (F : Int) (M : Int) false (((layL w h F M 0).foldl insP []).foldl insP []) ((0 + 1 : Nat) : Int)) (((layL w h F M 0).foldl insP []).foldl insP []) := by
    refine Ev.step (f := fun k => spec_l17Layings.j1 k (w : Int) (h : Int) (F : Int) (M : Int) false (((layL w h F M 0).foldl insP []).foldl insP []) ((0 + 1 : Nat) : Int) true) (fun k => ?_) (Ev.step (f := fun _ => some (((layL w h F M 0).foldl insP []).foldl insP [])) (fun k => ?_) (Ev.now _))
    · simp [spec_l17Layings.l0]
    · simp only [spec_l17Layings.j1, if_true]
  have R := spc_round hw hw6 hh hF hM hMl false 0 (by omega) [] _ (by simp) List.Pairwise.nil hfin
  refine Ev.step (fun k => ?_) R
  simp [spec_l17Layings.l0]
omit hw hw6 hh hF hM hMl in
theorem spcOut_facts (d : Nat) : ∀ (m : Nat) (acc : List Int), acc.Pairwise (· < ·) → (spcOut w h F M m d acc).Pairwise (· < ·) ∧ ∀ z, z ∈ spcOut w h F M m d acc ↔ z ∈ acc ∨ z ∈ impOut w h F M true m d := by
  induction d with
  | zero => intro m acc h; exact ⟨h, fun z => by simp [spcOut, impOut]⟩
  | succ d ih =>
    intro m acc h
    obtain ⟨g1, g2, g3⟩ := insF_facts (layL w _ F M m) [] List.Pairwise.nil
    obtain ⟨f1, f2, f3⟩ := insF_facts ((layL w _ F M m).foldl insP []) acc h
    obtain ⟨h1, h2⟩ := ih (m + 1) _ f1
    rw [spcOut_succ]
    refine ⟨h1, fun z => ?_⟩
    rw [h2, f2, g2, impOut_succ, if_pos (Or.inr rfl), List.mem_append]
    constructor
    · rintro (((a | a) | a) | a)
      · exact .inr (.inl a)
      · exact absurd a (by simp)
      · exact .inl a
      · exact .inr (.inr a)
    · rintro (a | a | a)
      · exact .inl (.inr a)
      · exact .inl (.inl (.inl a))
      · exact .inr a
theorem l17Layings_f (turn : Bool) : Ev (fun k => spec_l17Layings.f k (w : Int) (h : Int) (F : Int) (M : Int) turn) (laysOf w h F M turn) := by
  obtain ⟨s1, s2⟩ : (∀ z, z ∈ laysOf w h F M turn ↔ z ∈ impOut w h F M turn 0 8) ∧ (laysOf w h F M turn).Pairwise (· < ·) := sorted_compact (impOut w h F M turn 0 8)
  cases turn with
  | true =>
    obtain ⟨f1, f2⟩ := spcOut_facts (w := w) (h := h) (F := F) (M := M) 8 0 [] List.Pairwise.nil
    have e : spcOut w h F M 0 8 [] = laysOf w h F M true := asc_ext _ _ f1 s2 fun z => by rw [f2, s1]; simp
    rw [← e]
    exact spc_turn hw hw6 hh hF hM hMl 8 0 [] rfl (by omega) (by simp) List.Pairwise.nil
  | false =>
    obtain ⟨g1, g2, g3⟩ := insF_facts (layL w h F M 0) [] List.Pairwise.nil
    obtain ⟨f1, f2, f3⟩ := insF_facts ((layL w h F M 0).foldl insP []) [] List.Pairwise.nil
    have e : ((layL w h F M 0).foldl insP []).foldl insP [] = laysOf w h F M false := asc_ext _ _ f1 s2 fun z => by
      rw [f2, g2, s1]
      simp [impOut, List.range'_succ]
    rw [← e]
    exact spc_still hw hw6 hh hF hM hMl
end

theorem shape_nat {w h m : Int} (hs : shapeOk w h m = true) : ∃ W H M : Nat, w = (W : Int) ∧ h = (H : Int) ∧ m = (M : Int) ∧ 1 ≤ W ∧ W ≤ 6 ∧ 1 ≤ H ∧ H ≤ 6 ∧ M < 2 ^ (W * H) := by
  simp only [shapeOk, tab, Bool.and_eq_true, decide_eq_true_eq] at hs
  obtain ⟨⟨a1, a2, a3, a4⟩, b1, b2⟩ := hs
  obtain ⟨W, rfl⟩ := Int.eq_ofNat_of_zero_le (show 0 ≤ w by omega)
  obtain ⟨H, rfl⟩ := Int.eq_ofNat_of_zero_le (show 0 ≤ h by omega)
  obtain ⟨M, rfl⟩ := Int.eq_ofNat_of_zero_le b1
  rw [← Int.natCast_mul, Int.toNat_natCast] at b2
  exact ⟨W, H, M, rfl, rfl, rfl, by omega, by omega, by omega, by omega, Int.ofNat_lt.mp b2⟩
theorem big_lt {W H M : Nat} (h1 : W ≤ 6) (h2 : H ≤ 6) (h : M < 2 ^ (W * H)) : M < 9223372036854775808 := lt2_lt (Nat.mul_le_mul h1 h2) h

theorem ev_toIntS (L : List Int) (h : L.length ≤ 1048576) : Ev (fun k => laws_toIntS.f k L) L :=
  ⟨L.length + 1, fun k hk => toIntS L (by omega) k (by omega)⟩
theorem ev_eqS' (L : List Int) (h : L.length ≤ 1048576) : Ev (fun k => laws_eqIntS.f k L L) true :=
  ⟨L.length + 1, fun k hk => by show laws_eqIntS.f k L L = some true; rw [eqIntS L L (by omega) k (by omega)]; simp⟩

theorem add_or (x y : Nat) (hx : x < 9223372036854775808) (hy : y < 9223372036854775808) (h : ∀ j, ¬ (x.testBit j = true ∧ y.testBit j = true)) : x + y = x ||| y := by
  have h0 : BitVec.ofNat 64 x &&& BitVec.ofNat 64 y = 0#64 := by
    apply BitVec.eq_of_toNat_eq
    rw [BitVec.toNat_and, BitVec.toNat_ofNat, BitVec.toNat_ofNat, Nat.mod_eq_of_lt (by omega), Nat.mod_eq_of_lt (by omega)]
    refine Nat.eq_of_testBit_eq fun j => ?_
    rw [Nat.testBit_and]
    have := h j
    cases hx : x.testBit j <;> cases hy : y.testBit j <;> simp_all
  have h1 := congrArg BitVec.toNat (BitVec.add_eq_or_of_and_eq_zero _ _ h0)
  rw [BitVec.toNat_add, BitVec.toNat_or, BitVec.toNat_ofNat, BitVec.toNat_ofNat, Nat.mod_eq_of_lt (a := x) (by omega), Nat.mod_eq_of_lt (a := y) (by omega), Nat.mod_eq_of_lt (by omega)] at h1
  exact h1
/-- b's ones are ones of F. -/
def sub (b F : Nat) : Prop := ∀ j, b.testBit j = true → F.testBit j = true
theorem sub_off (b F : Nat) (hF : F < 9223372036854775808) (hb : sub b F) : andn F b + b = F ∧ b ≤ F := by
  have hbF : b ≤ F := by
    have : b &&& F = b := Nat.eq_of_testBit_eq fun j => by
      rw [Nat.testBit_and]
      have := hb j
      cases h1 : b.testBit j <;> cases h2 : F.testBit j <;> simp_all
    rw [← this]
    exact Nat.and_le_right
  have hle : andn F b ≤ F := Nat.and_le_left
  refine ⟨?_, hbF⟩
  rw [add_or _ _ (by omega) (by omega) fun j => ?_]
  · refine Nat.eq_of_testBit_eq fun j => ?_
    rw [Nat.testBit_or, testBit_andn _ _ _ (by omega) (by omega)]
    have := hb j
    cases h1 : b.testBit j <;> cases h2 : F.testBit j <;> simp_all
  · rw [testBit_andn _ _ _ (by omega) (by omega)]
    cases h1 : b.testBit j <;> cases h2 : F.testBit j <;> simp_all
theorem off_lt2 {F b N : Nat} (h : lt2 F N) : lt2 (andn F b) N := Nat.lt_of_le_of_lt Nat.and_le_left h
theorem off_both (b F : Nat) (hF : F < 9223372036854775808) (hb : sub b F) : Go.bits .andNot .i64 (F : Int) (b : Int) = ((andn F b : Nat) : Int) ∧ wrap64 ((F : Int) - (b : Int)) = ((andn F b : Nat) : Int) := by
  obtain ⟨h1, h2⟩ := sub_off b F hF hb
  refine ⟨i64_andNot F b (by omega) (by omega), ?_⟩
  rw [w64 (by omega) (by omega)]
  omega
theorem tryS_sub (w h F x y : Nat) (cs : List Nat) (b : Nat) : ∀ a, tryS w h F x y cs a = some b → ∀ j, b.testBit j = true → a.testBit j = true ∨ F.testBit j = true := by
  induction cs with
  | nil => intro a e j hj; rw [tryS, Option.some.injEq] at e; subst e; exact .inl hj
  | cons c r ih =>
    intro a e j hj
    rw [tryS] at e
    by_cases c0 : c % w + x ≥ w
    · rw [if_pos c0] at e; exact absurd e (by simp)
    · by_cases c1 : c / w + y ≥ h
      · rw [if_neg c0, if_pos c1] at e; exact absurd e (by simp)
      · by_cases c2 : F.testBit ((c / w + y) * w + c % w + x) = true
        · rw [if_neg c0, if_neg c1, if_pos c2] at e
          rcases ih _ e j hj with h1 | h1
          · rw [Nat.testBit_or, Bool.or_eq_true, Nat.testBit_two_pow, decide_eq_true_eq] at h1
            rcases h1 with h1 | h1
            · exact .inl h1
            · rw [h1] at c2; exact .inr c2
          · exact .inr h1
        · rw [if_neg c0, if_neg c1, if_neg c2] at e; exact absurd e (by simp)
theorem nxt_mem (o : Option Nat) (z : Int) (h : z ∈ nxt o) : ∃ b : Nat, o = some b ∧ b ≠ 0 ∧ z = (b : Int) := by
  unfold nxt at h
  split at h
  · split at h
    · simp at h
    · rename_i b hb
      exact ⟨b, rfl, hb, by simpa using h⟩
  · simp at h
theorem shL_mem (w h F C : Nat) (z : Int) (hz : z ∈ shL w h F C) : ∃ b : Nat, b ≠ 0 ∧ z = (b : Int) ∧ sub b F := by
  unfold shL allS rowS at hz
  obtain ⟨y, _, hz⟩ := List.mem_flatMap.mp hz
  obtain ⟨x, _, hz⟩ := List.mem_flatMap.mp hz
  obtain ⟨b, e, h0, hz⟩ := nxt_mem _ z hz
  refine ⟨b, h0, hz, fun j hj => ?_⟩
  rcases tryS_sub _ _ _ _ _ _ b 0 e j hj with h1 | h1
  · simp at h1
  · exact h1
theorem laysOf_mem (w h F M : Nat) (turn : Bool) (z : Int) (hz : z ∈ laysOf w h F M turn) : ∃ b : Nat, b ≠ 0 ∧ z = (b : Int) ∧ sub b F := by
  have h1 := ((sorted_compact (impOut w h F M turn 0 8)).1 z).mp hz
  unfold impOut at h1
  obtain ⟨m, _, h1⟩ := List.mem_flatMap.mp h1
  split at h1
  · unfold layL at h1
    split at h1
    · exact shL_mem w h F _ z h1
    · simp at h1
  · simp at h1
theorem full_free (w h : Nat) (hw6 : w ≤ 6) (hh : h ≤ 6) : wrap64 ((w : Int) * (h : Int)) = ((w * h : Nat) : Int) ∧ wrap64 (shl .i64 1 ((w * h : Nat) : Int) - 1) = ((2 ^ (w * h) - 1 : Nat) : Int) ∧ lt2 (2 ^ (w * h) - 1) (w * h) := by
  have hN : w * h ≤ 36 := Nat.mul_le_mul hw6 hh
  have hp : (2 : Nat) ^ (w * h) ≤ 2 ^ 36 := Nat.pow_le_pow_right (by omega) hN
  have hp1 : 1 ≤ (2 : Nat) ^ (w * h) := Nat.one_le_two_pow
  refine ⟨?_, ?_, ?_⟩
  · rw [← Int.natCast_mul]; exact w64n _ (by omega)
  · rw [shl_one _ (by omega)]
    generalize 2 ^ (w * h) = p at hp hp1
    rw [w64 (by omega) (by omega)]
    omega
  · unfold lt2
    omega
theorem full_free' (w h : Nat) (hw6 : w ≤ 6) (hh : h ≤ 6) : wrap64 ((w : Int) * (h : Int)) = ((w * h : Nat) : Int) ∧ ∃ F : Nat, wrap64 (shl .i64 1 ((w * h : Nat) : Int) - 1) = (F : Int) ∧ lt2 F (w * h) :=
  ⟨(full_free w h hw6 hh).1, _, (full_free w h hw6 hh).2.1, (full_free w h hw6 hh).2.2⟩

def shapesOk (w h : Int) (l : List Int) (n : Nat) : Bool := decide (l.length ≤ n) && tab w h && l.all fun m => shapeOk w h m
theorem areShapes_f (w h : Int) (l : List Int) : impl_areShapes.f w h l = some (tab w h && l.all fun m => shapeOk w h m) := by
  unfold impl_areShapes.f
  simp only [isTable_f, Option.bind_some, ShapeOk_f]
  by_cases ht : tab w h = true
  · simp only [ht, if_true, Bool.true_and]
    congr 2
    funext m
    cases shapeOk w h m <;> rfl
  · simp [ht]
theorem l17Shapes_l (w h : Int) (l : List Int) (hl : l.length ≤ 12) (d : Nat) : ∀ i : Nat, l.length - i = d → i ≤ l.length → Ev (fun k => spec_l17Shapes.l0 k w h l (l.length : Int) (i : Int)) ((l.drop i).all fun m => shapeOk w h m) := by
  induction d with
  | zero =>
    intro i hd hi
    rw [List.drop_of_length_le (by omega)]
    refine Ev.step (f := fun _ => some true) (fun k => ?_) (Ev.now _)
    simp only [spec_l17Shapes.l0, lt_f (show l.length ≤ i by omega), if_false]
  | succ d ih =>
    intro i hd hi
    have hlt : i < l.length := by omega
    rw [List.drop_eq_getElem_cons hlt, List.all_cons]
    by_cases hs : shapeOk w h l[i] = true
    · rw [hs, Bool.true_and]
      refine Ev.step (fun k => ?_) (ih (i + 1) (by omega) (by omega))
      simp only [spec_l17Shapes.l0, lt_t hlt, nn_t, if_true, spec_ShapeOk_f, Option.bind_some, rd_get l i hlt, hs, w1 (show i ≤ 140737488355328 by omega)]
    · have hs' : shapeOk w h l[i] = false := by simpa using hs
      rw [hs', Bool.false_and]
      refine Ev.step (f := fun _ => some false) (fun k => ?_) (Ev.now _)
      simp only [spec_l17Shapes.l0, lt_t hlt, nn_t, if_true, spec_ShapeOk_f, Option.bind_some, rd_get l i hlt, hs', Bool.false_eq_true, if_false]
theorem shape0 (w h : Int) : shapeOk w h 0 = tab w h := by
  unfold shapeOk
  have : (0 : Int) < ((2 ^ (w * h).toNat : Nat) : Int) := Int.ofNat_lt.mpr (Nat.pow_pos (by omega))
  rw [decide_eq_true (show (0 : Int) ≤ 0 ∧ (0 : Int) < ((2 ^ (w * h).toNat : Nat) : Int) from ⟨Int.le_refl _, this⟩), Bool.and_true]
theorem l17Shapes_f (w h : Int) (l : List Int) (n : Nat) (hn : n ≤ 12) : Ev (fun k => spec_l17Shapes.f k w h l (n : Int)) (shapesOk w h l n) := by
  unfold shapesOk
  by_cases hl : l.length ≤ n
  · by_cases ht : tab w h = true
    · rw [decide_eq_true hl, ht, Bool.true_and, Bool.true_and]
      have := l17Shapes_l w h l (by omega) l.length 0 rfl (by omega)
      rw [List.drop_zero] at this
      refine Ev.step (fun k => ?_) this
      unfold spec_l17Shapes.f
      rw [if_neg (by omega)]
      simp only [spec_ShapeOk_f, Option.bind_some, shape0, ht, Bool.not_true, spec_l17Shapes.j0, Bool.false_eq_true, if_false]
      rfl
    · refine Ev.step (f := fun _ => some false) (fun k => ?_) (by simpa [ht] using Ev.now false)
      unfold spec_l17Shapes.f
      rw [if_neg (by omega)]
      simp [spec_ShapeOk_f, shape0, ht, spec_l17Shapes.j0]
  · refine Ev.step (f := fun _ => some false) (fun k => ?_) (by simpa [hl] using Ev.now false)
    unfold spec_l17Shapes.f
    rw [if_pos (by omega)]
    simp [spec_l17Shapes.j0]
/-- Shapes of one table, as numbers. -/
theorem shapes_nat (w h : Int) (l : List Int) (n : Nat) (hs : shapesOk w h l n = true) : ∃ (W H : Nat) (ns : List Nat), w = (W : Int) ∧ h = (H : Int) ∧ l = ns.map Int.ofNat ∧ 1 ≤ W ∧ W ≤ 6 ∧ 1 ≤ H ∧ H ≤ 6 ∧ ns.length ≤ n ∧ ∀ M ∈ ns, lt2 M (W * H) := by
  unfold shapesOk at hs
  rw [Bool.and_eq_true, Bool.and_eq_true, decide_eq_true_eq] at hs
  obtain ⟨⟨hl, ht⟩, ha⟩ := hs
  obtain ⟨W, H, Z, rfl, rfl, _, w1_, w2, w3, w4, _⟩ := shape_nat ((shape0 w h).trans ht)
  refine ⟨W, H, l.map Int.toNat, rfl, rfl, ?_, w1_, w2, w3, w4, by rw [List.length_map]; exact hl, ?_⟩
  · rw [List.map_map]
    clear hl
    induction l with
    | nil => rfl
    | cons a r ih =>
      rw [List.all_cons, Bool.and_eq_true] at ha
      obtain ⟨_, _, M, e1, e2, rfl, _⟩ := shape_nat ha.1
      rw [List.map_cons, ← ih ha.2]
      simp
  · intro M hM
    obtain ⟨m, hm, rfl⟩ := List.mem_map.mp hM
    obtain ⟨W', H', M', e1, e2, rfl, _, _, _, _, h6⟩ := shape_nat (List.all_eq_true.mp ha m hm)
    obtain rfl : W' = W := by omega
    obtain rfl : H' = H := by omega
    exact h6

/-- All nests, shape after shape, place after place. -/
def allN (w h : Nat) (turn : Bool) : List Nat → Nat → List (List Int)
  | [], _ => [[]]
  | M :: r, F => (laysOf w h F M turn).flatMap fun x => (allN w h turn r (andn F x.toNat)).map (x :: ·)
/-- A visitor goes through a list until it says no. -/
def runV {St : Type} (vis : List Int → St → Bool × St) : List (List Int) → St → Bool × St
  | [], s => (true, s)
  | x :: r, s => if (vis x s).1 = true then runV vis r (vis x s).2 else (false, (vis x s).2)
theorem runV_app {St : Type} (vis : List Int → St → Bool × St) (a b : List (List Int)) : ∀ s, runV vis (a ++ b) s = if (runV vis a s).1 = true then runV vis b (runV vis a s).2 else (false, (runV vis a s).2) := by
  induction a with
  | nil => intro s; simp [runV]
  | cons x r ih =>
    intro s
    rw [List.cons_append, runV, runV]
    by_cases h : (vis x s).1 = true
    · rw [if_pos h, if_pos h, ih]
    · rw [if_neg h, if_neg h]
      simp
theorem take_app {α : Type} (a b : List α) (n : Nat) (h : a.length < n) : (a ++ b).take n = a ++ b.take (n - a.length) := by
  rw [List.take_append, List.take_of_length_le (by omega)]
theorem rd_getN (l : List (List Int)) (i : Nat) (h : i < l.length) : rd_L1 l (i : Int) = l[i] := by simp [rd_L1, List.getD_eq_getElem?_getD, h]
theorem rd_natsN (ns : List Nat) (i : Nat) (hlt : i < ns.length) : rd (ns.map Int.ofNat) (i : Int) = (ns[i] : Int) := by
  rw [rd_get _ i (by rw [List.length_map]; exact hlt), List.getElem_map]
  rfl
section
variable {w h : Nat} (hw : 1 ≤ w) (hw6 : w ≤ 6) (hh : h ≤ 6) (turn : Bool)
include hw hw6 hh
theorem lay_at (F : Nat) (hF : lt2 F (w * h)) (M i : Nat) (hi : i < (laysOf w h F M turn).length) : ∃ b : Nat, (laysOf w h F M turn)[i] = (b : Int) ∧ Go.bits .andNot .i64 (F : Int) (b : Int) = ((andn F b : Nat) : Int) ∧ wrap64 ((F : Int) - (b : Int)) = ((andn F b : Nat) : Int) ∧ lt2 (andn F b) (w * h) := by
  have hN : w * h ≤ 36 := Nat.mul_le_mul hw6 hh
  obtain ⟨b, b0, hb, hs⟩ := laysOf_mem w h F M turn _ (List.getElem_mem hi)
  obtain ⟨g1, g2⟩ := off_both b F (lt2_lt hN hF) hs
  exact ⟨b, hb, g1, g2, off_lt2 hF⟩
theorem en_all {St : Type} (vis : List Int → St → Bool × St) (ns : List Nat) (hns : ∀ M ∈ ns, lt2 M (w * h) ∧ M ≠ 0) (hnl : ns.length ≤ 12) (d : Nat) : ∀ (nest : List Int) (F : Nat) (s : St), ns.length - nest.length = d → nest.length ≤ ns.length → lt2 F (w * h) →
    Ev (fun k => en.lay vis k (w : Int) (h : Int) turn (ns.map Int.ofNat) (F : Int) nest s) (runV vis ((allN w h turn (ns.drop nest.length) F).map (nest ++ ·)) s) := by
  have hN : w * h ≤ 36 := Nat.mul_le_mul hw6 hh
  induction d with
  | zero =>
    intro nest F s hd hl hF
    have e : ns.drop nest.length = [] := List.drop_of_length_le (by omega)
    have h1 : (nest.length < 100) = True := eq_true (by omega)
    have h2 : (nest.length = (ns.map Int.ofNat).length) = True := eq_true (by rw [List.length_map]; omega)
    rw [e]
    refine Ev.step (f := fun _ => some (vis nest s)) (fun k => ?_) ?_
    · simp only [en.lay, h1, h2, if_true]
    · have e2 : runV vis ((allN w h turn [] F).map (nest ++ ·)) s = vis nest s := by
        simp only [allN, List.map_cons, List.map_nil, List.append_nil, runV]
        cases hv : vis nest s with
        | mk b s' => cases b <;> simp
      rw [e2]
      exact Ev.now _
  | succ d ih =>
    intro nest F s hd hl hF
    have hlt : nest.length < ns.length := by omega
    have h1 : (nest.length < 100) = True := eq_true (by omega)
    have h2 : (nest.length = (ns.map Int.ofNat).length) = False := eq_false (by rw [List.length_map]; omega)
    have h3 : (nest.length < (ns.map Int.ofNat).length) = True := eq_true (by rw [List.length_map]; omega)
    have hM := hns ns[nest.length] (List.getElem_mem hlt)
    have er := Aside0.mk (rd_natsN ns nest.length hlt)
    rw [List.drop_eq_getElem_cons hlt, allN]
    generalize ns[nest.length] = M at er hM ⊢
    have hlay := layings_f hw hw6 hh (lt2_lt hN hF) hM.2 hM.1 turn
    have hat := lay_at hw hw6 hh turn F hF M
    have hle := laysOf_facts w h F M hw6 hh turn
    generalize laysOf w h F M turn = L at hlay hat hle ⊢
    have loop : ∀ (e i : Nat) (s : St), L.length - i = e → i ≤ L.length →
        Ev (fun k => en.lp vis k (w : Int) (h : Int) turn (ns.map Int.ofNat) (F : Int) nest L (i : Int) s) (runV vis (((L.drop i).flatMap fun x => (allN w h turn (ns.drop (nest.length + 1)) (andn F x.toNat)).map (x :: ·)).map (nest ++ ·)) s) := by
      intro e
      induction e with
      | zero =>
        intro i s he hi
        rw [List.drop_of_length_le (show L.length ≤ i by omega)]
        refine Ev.step (f := fun _ => some (true, s)) (fun k => ?_) (Ev.now _)
        simp only [en.lp, lt_f (show L.length ≤ i by omega), if_false]
      | succ e ih2 =>
        intro i s he hi
        have hil : i < L.length := by omega
        have he1 : L.length - (i + 1) = e := by omega
        have hi1 : i + 1 ≤ L.length := by omega
        have hd1 : ns.length - (nest.length + 1) = d := by omega
        have hi3 := w1 (show i ≤ 140737488355328 by omega)
        obtain ⟨b, b1, b2, b3, b4⟩ := hat i hil
        have eb : rd L (i : Int) = (b : Int) := (rd_get _ i hil).trans b1
        have A := ih (nest ++ [(b : Int)]) (andn F b) s (by rw [List.length_append, List.length_singleton]; exact hd1) (by rw [List.length_append, List.length_singleton]; exact hlt) b4
        rw [List.length_append, List.length_singleton] at A
        have em : (allN w h turn (ns.drop (nest.length + 1)) (andn F b)).map ((nest ++ [(b : Int)]) ++ ·) = ((allN w h turn (ns.drop (nest.length + 1)) (andn F b)).map ((b : Int) :: ·)).map (nest ++ ·) := by
          rw [List.map_map]
          refine List.map_congr_left fun x _ => ?_
          simp
        rw [em] at A
        rw [List.drop_eq_getElem_cons hil, List.flatMap_cons, List.map_append, runV_app, b1, Int.toNat_natCast]
        refine Ev.step (f := fun k => (en.lay vis k (w : Int) (h : Int) turn (ns.map Int.ofNat) ((andn F b : Nat) : Int) (nest ++ [(b : Int)]) s).bind fun t => if t.1 = true then en.lp vis k (w : Int) (h : Int) turn (ns.map Int.ofNat) (F : Int) nest L ((i + 1 : Nat) : Int) t.2 else some (false, t.2)) (fun k => ?_) (Ev.bind A ?_)
        · simp only [en.lp, lt_t hil, nn_t, if_true, eb, b2, hi3]
        · generalize runV vis (((allN w h turn (ns.drop (nest.length + 1)) (andn F b)).map ((b : Int) :: ·)).map (nest ++ ·)) s = t
          obtain ⟨t1, t2⟩ := t
          cases t1 with
          | true =>
            simp only [if_true]
            exact ih2 (i + 1) t2 he1 hi1
          | false =>
            simp only [Bool.false_eq_true, if_false]
            exact Ev.now _
    have L0 := loop L.length 0 s rfl (Nat.zero_le _)
    rw [List.drop_zero] at L0
    refine Ev.step (f := fun k => (impl_layings.f k (w : Int) (h : Int) (F : Int) (M : Int) turn).bind fun L => en.lp vis k (w : Int) (h : Int) turn (ns.map Int.ofNat) (F : Int) nest L 0 s) (fun k => ?_) (Ev.bind hlay L0)
    simp only [en.lay, h1, h2, h3, if_true, if_false, er.out]
theorem spec_all (most : Nat) (hm5 : most ≤ 5000) : ∀ (ns : List Nat) (F : Nat) (most : Nat), (∀ M ∈ ns, lt2 M (w * h) ∧ M ≠ 0) → ns.length ≤ 12 → lt2 F (w * h) → 1 ≤ most → most ≤ 5000 →
    Ev (fun k => spec_l17All.f k (w : Int) (h : Int) (F : Int) (ns.map Int.ofNat) turn (most : Int)) ((allN w h turn ns F).take most) ∧ ∀ x ∈ allN w h turn ns F, x.length = ns.length := by
  have hN : w * h ≤ 36 := Nat.mul_le_mul hw6 hh
  clear hm5 most
  intro ns
  induction ns with
  | nil =>
    intro F most _ _ _ hm1 _
    refine ⟨Ev.step (f := fun _ => some [[]]) (fun k => ?_) ?_, ?_⟩
    · simp [spec_l17All.f]
    · have e : (allN w h turn [] F).take most = [[]] := List.take_of_length_le (by simp only [allN, List.length_singleton]; exact hm1)
      rw [e]
      exact Ev.now _
    · intro x hx
      simp only [allN, List.mem_singleton] at hx
      rw [hx]
      rfl
  | cons M r ih =>
    intro F most hns hnl hF hm1 hm5
    have hM := hns M (by simp)
    have hr : ∀ X ∈ r, lt2 X (w * h) ∧ X ≠ 0 := fun X hX => hns X (by simp [hX])
    have hrl : r.length ≤ 12 := by rw [List.length_cons] at hnl; omega
    have hsz : ∀ x ∈ allN w h turn (M :: r) F, x.length = (M :: r).length := by
      intro x hx
      rw [allN] at hx
      obtain ⟨y, hy, hx⟩ := List.mem_flatMap.mp hx
      obtain ⟨z, hz, rfl⟩ := List.mem_map.mp hx
      obtain ⟨i, hi, e⟩ := List.mem_iff_getElem.mp hy
      obtain ⟨b, b1, _, _, b4⟩ := lay_at hw hw6 hh turn F hF M i hi
      rw [e] at b1
      subst b1
      rw [Int.toNat_natCast] at hz
      have := (ih (andn F b) 1 hr hrl b4 (Nat.le_refl _) (by decide)).2 z hz
      rw [List.length_cons, List.length_cons, this]
    refine ⟨?_, hsz⟩
    clear hsz
    rw [allN]
    have hlay := l17Layings_f hw hw6 hh (lt2_lt hN hF) hM.2 hM.1 turn
    have hat := lay_at hw hw6 hh turn F hF M
    have hle := laysOf_facts w h F M hw6 hh turn
    generalize laysOf w h F M turn = L at hlay hat hle ⊢
    -- the rest's nests behind one place
    have inner : ∀ (b : Nat) (rest : List (List Int)) (out : List (List Int)) (i : Nat) (R : List (List Int)), (∀ x ∈ rest, x.length ≤ 12) → rest.length ≤ 5000 → out.length ≤ 5000 →
        Ev (fun k => if ((out ++ rest.map ((b : Int) :: ·)).length : Int) ≥ (most : Int) then some ((out ++ rest.map ((b : Int) :: ·)).take most) else spec_l17All.l0 k (w : Int) (h : Int) (F : Int) ((M :: r).map Int.ofNat) turn (most : Int) (out ++ rest.map ((b : Int) :: ·)) L (L.length : Int) (wrap64 ((i : Int) + 1))) R →
        ∀ (e j : Nat) (acc : List (List Int)), rest.length - j = e → j ≤ rest.length → acc = out ++ (rest.take j).map ((b : Int) :: ·) →
        Ev (fun k => spec_l17All.l1 k (w : Int) (h : Int) (F : Int) ((M :: r).map Int.ofNat) turn (most : Int) acc (b : Int) L (L.length : Int) (i : Int) rest (rest.length : Int) (j : Int)) R := by
      intro b rest out i R hx hrl2 hol H e
      induction e with
      | zero =>
        intro j acc he hj ha
        have ej : j = rest.length := by omega
        subst ej
        rw [List.take_length] at ha
        rw [← ha] at H
        have hp : ((0 : Int) ≤ (most : Int)) = True := nn_t _
        refine Ev.step (fun k => ?_) H
        simp only [spec_l17All.l1, lt_f (Nat.le_refl rest.length), if_false, hp, if_true, Int.toNat_natCast]
        by_cases hc : (acc.length : Int) ≥ (most : Int)
        · have hc2 : (most : Int) ≤ (acc.length : Int) := hc
          rw [if_pos hc, if_pos hc2]
          simp [hc]
        · rw [if_neg hc, if_neg hc]
      | succ e ih2 =>
        intro j acc he hj ha
        have hjl : j < rest.length := by omega
        have hx1 := hx rest[j] (List.getElem_mem hjl)
        have hg1 : (([(b : Int)] : List Int).length + (rest[j]).length < 17592186044416) = True := eq_true (by rw [List.length_singleton]; omega)
        have hal : acc.length ≤ 10000 := by
          rw [ha, List.length_append, List.length_map, List.length_take]
          omega
        have hg2 : (acc.length < 5864062014805) = True := eq_true (by omega)
        have q1 : rest.length - (j + 1) = e := by omega
        have q2 : j + 1 ≤ rest.length := by omega
        have hj3 := w1 (show j ≤ 140737488355328 by omega)
        refine Ev.step (fun k => ?_) (ih2 (j + 1) (acc ++ [(b : Int) :: rest[j]]) q1 q2 (by rw [ha, List.take_add_one, List.getElem?_eq_getElem hjl, Option.toList_some, List.map_append, List.map_singleton, List.append_assoc]))
        simp only [spec_l17All.l1, lt_t hjl, nn_t, if_true, rd_getN rest j hjl, Option.bind_some, hg1, hg2, hj3]
        rfl
    have outer : ∀ (e i : Nat) (out : List (List Int)), L.length - i = e → i ≤ L.length → out.length < most →
        Ev (fun k => spec_l17All.l0 k (w : Int) (h : Int) (F : Int) ((M :: r).map Int.ofNat) turn (most : Int) out L (L.length : Int) (i : Int)) ((out ++ (L.drop i).flatMap fun x => (allN w h turn r (andn F x.toNat)).map (x :: ·)).take most) := by
      intro e
      induction e with
      | zero =>
        intro i out he hi ho
        rw [List.drop_of_length_le (show L.length ≤ i by omega), List.flatMap_nil, List.append_nil, List.take_of_length_le (Nat.le_of_lt ho)]
        refine Ev.step (f := fun _ => some out) (fun k => ?_) (Ev.now _)
        simp only [spec_l17All.l0, lt_f (show L.length ≤ i by omega), if_false]
      | succ e ih2 =>
        intro i out he hi ho
        have hil : i < L.length := by omega
        have he1 : L.length - (i + 1) = e := by omega
        have hi1 : i + 1 ≤ L.length := by omega
        have hml : 1 ≤ most - out.length := by omega
        have hml2 : most - out.length ≤ 5000 := by omega
        have hol : out.length ≤ 5000 := by omega
        have hm' : wrap64 ((most : Int) - (out.length : Int)) = ((most - out.length : Nat) : Int) := by
          rw [w64 (by omega) (by omega)]
          omega
        have hi3' : i ≤ 140737488355328 := by clear hm'; omega
        have hi3 := w1 hi3'
        have hone : ((1 : Int) ≤ (((M :: r).map Int.ofNat).length : Int)) = True := eq_true (by rw [List.length_map, List.length_cons]; exact Int.ofNat_le.mpr (Nat.succ_le_succ (Nat.zero_le _)))
        obtain ⟨b, b1, b2, b3, b4⟩ := hat i hil
        have eb : rd L (i : Int) = (b : Int) := (rd_get _ i hil).trans b1
        obtain ⟨A, Al⟩ := ih (andn F b) (most - out.length) hr hrl b4 hml hml2
        have ed : ((M :: r).map Int.ofNat).drop 1 = r.map Int.ofNat := rfl
        rw [List.drop_eq_getElem_cons hil, List.flatMap_cons, b1, Int.toNat_natCast, ← List.append_assoc]
        generalize hG : (L.drop (i + 1)).flatMap (fun x => (allN w h turn r (andn F x.toNat)).map (x :: ·)) = G
        have rl : ((allN w h turn r (andn F b)).take (most - out.length)).length ≤ 5000 := by
          exact Nat.le_trans (List.length_take_le _ _) hml2
        have hxs : ∀ x ∈ (allN w h turn r (andn F b)).take (most - out.length), x.length ≤ 12 := fun x hx => by
          rw [Al x (List.mem_of_mem_take hx)]; exact hrl
        have key : out ++ ((allN w h turn r (andn F b)).take (most - out.length)).map ((b : Int) :: ·) = (out ++ (allN w h turn r (andn F b)).map ((b : Int) :: ·)).take most := by
          rw [take_app _ _ _ ho, List.map_take]
        refine Ev.step (f := fun k => (spec_l17All.f k (w : Int) (h : Int) ((andn F b : Nat) : Int) (r.map Int.ofNat) turn ((most - out.length : Nat) : Int)).bind fun t254 => (spec_l17All.l1 k (w : Int) (h : Int) (F : Int) ((M :: r).map Int.ofNat) turn (most : Int) out (b : Int) L (L.length : Int) (i : Int) t254 (t254.length : Int) 0)) (fun k => ?_) (Ev.bind A (inner b _ out i _ hxs rl hol ?_ _ 0 out rfl (Nat.zero_le _) (by simp)))
        · simp only [spec_l17All.l0, lt_t hil, nn_t, if_true, eb, b3, hm', hone, ed]
        · rw [key]
          clear b1 b2 b3 eb hm' hone key A Al rl hxs ed
          have HI3 := Aside0.mk hi3
          clear hi3
          generalize (allN w h turn r (andn F b)).map ((b : Int) :: ·) = g
          by_cases hc : ((((out ++ g).take most).length : Nat) : Int) ≥ (most : Int)
          · have hlen : most ≤ (out ++ g).length := by
              rw [List.length_take] at hc
              omega
            have e1 : ((out ++ g) ++ G).take most = ((out ++ g).take most).take most := by
              rw [List.take_append_of_le_length hlen, List.take_take, Nat.min_self]
            rw [e1]
            refine Ev.congr (fun k => ?_) (Ev.now _)
            rw [if_pos hc]
          · have hlen : (out ++ g).length < most := by
              rw [List.length_take] at hc
              omega
            have e1 : (out ++ g).take most = out ++ g := List.take_of_length_le (Nat.le_of_lt hlen)
            rw [e1] at hc ⊢
            have B := ih2 (i + 1) (out ++ g) he1 hi1 hlen
            rw [hG] at B
            refine Ev.congr (fun k => ?_) B
            rw [if_neg hc, HI3.out]
    have O := outer L.length 0 [] rfl (Nat.zero_le _) (by rw [List.length_nil]; exact hm1)
    rw [List.nil_append, List.drop_zero] at O
    have hz : ((((M :: r).map Int.ofNat).length : Int) = 0) = False := eq_false (by rw [List.length_map, List.length_cons]; omega)
    have hz2 : (0 < (((M :: r).map Int.ofNat).length : Int)) = True := eq_true (by rw [List.length_map, List.length_cons]; omega)
    have e0 : rd ((M :: r).map Int.ofNat) 0 = (M : Int) := rfl
    refine Ev.step (f := fun k => (spec_l17Layings.f k (w : Int) (h : Int) (F : Int) (M : Int) turn).bind fun t249 => (spec_l17All.l0 k (w : Int) (h : Int) (F : Int) ((M :: r).map Int.ofNat) turn (most : Int) [] t249 (t249.length : Int) 0)) (fun k => ?_) (Ev.bind hlay O)
    simp only [spec_l17All.f, hz, hz2, if_true, if_false, e0]
end
theorem index_l (l : List Int) (hl : l.length ≤ 1000) (d : Nat) : ∀ i : Nat, l.length - i = d → i ≤ l.length → ∃ r : Int, Ev (fun k => slices_Index_int_int.l0 k l 0 (l.length : Int) (i : Int)) r ∧ (decide (r ≥ 0) = decide (0 ∈ l.drop i)) := by
  induction d with
  | zero =>
    intro i hd hi
    refine ⟨-1, Ev.step (f := fun _ => some (-1)) (fun k => ?_) (Ev.now _), ?_⟩
    · simp only [slices_Index_int_int.l0, lt_f (show l.length ≤ i by omega), if_false]
    · rw [List.drop_of_length_le (by omega)]; simp
  | succ d ih =>
    intro i hd hi
    have hlt : i < l.length := by omega
    by_cases hz : (0 : Int) = l[i]
    · refine ⟨(i : Int), Ev.step (f := fun _ => some (i : Int)) (fun k => ?_) (Ev.now _), ?_⟩
      · simp only [slices_Index_int_int.l0, lt_t hlt, nn_t, if_true, rd_get l i hlt]
        rw [if_pos hz]
      · rw [List.drop_eq_getElem_cons hlt, ← hz]
        simp
    · obtain ⟨r, h1, h2⟩ := ih (i + 1) (by omega) (by omega)
      refine ⟨r, Ev.step (fun k => ?_) h1, ?_⟩
      · simp only [slices_Index_int_int.l0, lt_t hlt, nn_t, if_true, rd_get l i hlt, w1 (show i ≤ 140737488355328 by omega)]
        rw [if_neg hz]
      · rw [h2, List.drop_eq_getElem_cons hlt, decide_eq_decide, List.mem_cons]
        exact ⟨.inr, fun h => h.resolve_left hz⟩
theorem contains_f (l : List Int) (hl : l.length ≤ 1000) : Ev (fun k => slices_Contains_int_int.f k l 0) (decide ((0 : Int) ∈ l)) := by
  obtain ⟨r, h1, h2⟩ := index_l l hl l.length 0 rfl (by omega)
  rw [List.drop_zero] at h2
  rw [← h2]
  unfold slices_Contains_int_int.f slices_Index_int_int.f
  exact Ev.bind h1 (Ev.now _)
theorem few_l (l : List Int) (hl : l.length ≤ 1000) (d : Nat) : ∀ i : Nat, l.length - i = d → i ≤ l.length → Ev (fun k => spec_l17Few.l0 k l (l.length : Int) (i : Int)) (!decide (0 ∈ l.drop i)) := by
  induction d with
  | zero =>
    intro i hd hi
    rw [List.drop_of_length_le (by omega)]
    refine Ev.step (f := fun _ => some true) (fun k => ?_) (by simpa using Ev.now true)
    simp only [spec_l17Few.l0, lt_f (show l.length ≤ i by omega), if_false]
  | succ d ih =>
    intro i hd hi
    have hlt : i < l.length := by omega
    rw [List.drop_eq_getElem_cons hlt]
    by_cases hz : l[i] = 0
    · refine Ev.step (f := fun _ => some false) (fun k => ?_) (by simpa [hz] using Ev.now false)
      simp only [spec_l17Few.l0, lt_t hlt, nn_t, if_true, rd_get l i hlt]
      rw [if_pos hz]
    · have e : (decide ((0 : Int) ∈ l[i] :: l.drop (i + 1))) = decide (0 ∈ l.drop (i + 1)) := by
        rw [decide_eq_decide, List.mem_cons]
        exact ⟨fun h => h.resolve_left (fun e => hz e.symm), .inr⟩
      rw [e]
      refine Ev.step (fun k => ?_) (ih (i + 1) (by omega) (by omega))
      simp only [spec_l17Few.l0, lt_t hlt, nn_t, if_true, rd_get l i hlt, w1 (show i ≤ 140737488355328 by omega)]
      rw [if_neg hz]
def fewOk (w h : Int) (l : List Int) : Bool := shapesOk w h l 5 && decide (wrap64 (w * h) ≤ 16) && !decide ((0 : Int) ∈ l)
theorem few_f (w h : Int) (l : List Int) : Ev (fun k => spec_l17Few.f k w h l) (fewOk w h l) := by
  unfold spec_l17Few.f fewOk
  refine Ev.bind (l17Shapes_f w h l 5 (by omega)) ?_
  by_cases hs : shapesOk w h l 5 = true
  · have hl : l.length ≤ 5 := by
      unfold shapesOk at hs
      rw [Bool.and_eq_true, Bool.and_eq_true, decide_eq_true_eq] at hs
      exact hs.1.1
    simp only [hs, if_true, Bool.true_and]
    by_cases hm : wrap64 (w * h) > 16
    · have h2 : decide (wrap64 (w * h) ≤ 16) = false := decide_eq_false (by omega)
      rw [decide_eq_true hm, h2]
      refine Ev.step (f := fun _ => some false) (fun k => ?_) (by simpa using Ev.now false)
      simp [spec_l17Few.j0]
    · have h2 : decide (wrap64 (w * h) ≤ 16) = true := decide_eq_true (by omega)
      rw [decide_eq_false hm, h2, Bool.true_and]
      have := few_l l (by omega) l.length 0 rfl (by omega)
      rw [List.drop_zero] at this
      refine Ev.step (fun k => ?_) this
      simp only [spec_l17Few.j0, Bool.false_eq_true, if_false]
      rfl
  · have hs' : shapesOk w h l 5 = false := by simpa using hs
    rw [hs']
    simp only [Bool.false_eq_true, if_false]
    refine Ev.step (f := fun _ => some false) (fun k => ?_) (by simpa using Ev.now false)
    simp [spec_l17Few.j0]
theorem few_shapes (w h : Int) (l : List Int) (hf : fewOk w h l = true) : shapesOk w h l 12 = true ∧ shapesOk w h l 5 = true ∧ wrap64 (w * h) ≤ 16 ∧ decide ((0 : Int) ∈ l) = false := by
  unfold fewOk at hf
  rw [Bool.and_eq_true, Bool.and_eq_true, decide_eq_true_eq, Bool.not_eq_true'] at hf
  obtain ⟨⟨h1, h2⟩, h3⟩ := hf
  refine ⟨?_, h1, h2, h3⟩
  unfold shapesOk at h1 ⊢
  rw [Bool.and_eq_true, Bool.and_eq_true, decide_eq_true_eq] at h1
  rw [Bool.and_eq_true, Bool.and_eq_true, decide_eq_true_eq]
  exact ⟨⟨Nat.le_trans h1.1.1 (by decide), h1.1.2⟩, h1.2⟩
/-- What both ask of their arguments. -/
theorem gate {α : Type} (w h : Int) (l : List Int) (no : α) (yes : Nat → Option α) (r : α) (hy : fewOk w h l = true → Ev yes r) (hn : fewOk w h l = false → r = no) :
    Ev (fun k => if l.length > 5 then some no else ((impl_areShapes.f w h l).bind fun t => if t = true then (if wrap64 (w * h) > 16 then some no else ((slices_Contains_int_int.f k l 0).bind fun c => if c = true then some no else yes k)) else some no)) r := by
  by_cases hl : l.length > 5
  · have hf : fewOk w h l = false := by
      unfold fewOk shapesOk
      rw [decide_eq_false (show ¬ l.length ≤ 5 by omega)]
      rfl
    rw [hn hf]
    exact Ev.congr (fun k => by rw [if_pos hl]) (Ev.now _)
  · have hl5 : l.length ≤ 5 := by omega
    by_cases hs : (tab w h && l.all fun m => shapeOk w h m) = true
    · by_cases hm : wrap64 (w * h) > 16
      · have hf : fewOk w h l = false := by
          unfold fewOk
          rw [decide_eq_false (show ¬ wrap64 (w * h) ≤ 16 from Int.not_le.mpr hm), Bool.and_false, Bool.false_and]
        rw [hn hf]
        refine Ev.congr (fun k => ?_) (Ev.now _)
        rw [if_neg hl, areShapes_f, hs]
        simp only [Option.bind_some, if_true, hm]
      · have hc := contains_f l (by omega)
        have e : ∀ k, (if l.length > 5 then some no else ((impl_areShapes.f w h l).bind fun t => if t = true then (if wrap64 (w * h) > 16 then some no else ((slices_Contains_int_int.f k l 0).bind fun c => if c = true then some no else yes k)) else some no)) = (slices_Contains_int_int.f k l 0).bind fun c => if c = true then some no else yes k := fun k => by
          rw [if_neg hl, areShapes_f, hs]
          simp only [Option.bind_some, if_true]
          rw [if_neg hm]
        refine Ev.congr e ?_
        refine Ev.bind hc ?_
        by_cases hz : (0 : Int) ∈ l
        · have hf : fewOk w h l = false := by
            unfold fewOk
            rw [decide_eq_true hz, Bool.not_true, Bool.and_false]
          rw [hn hf]
          rw [decide_eq_true hz]
          simp only [if_true]
          exact Ev.now _
        · have hf : fewOk w h l = true := by
            unfold fewOk shapesOk
            rw [decide_eq_false hz, decide_eq_true hl5, decide_eq_true (show wrap64 (w * h) ≤ 16 from Int.not_lt.mp hm), Bool.true_and, hs]
            rfl
          rw [decide_eq_false hz]
          simp only [Bool.false_eq_true, if_false]
          exact hy hf
    · have hs' : (tab w h && l.all fun m => shapeOk w h m) = false := by simpa using hs
      have hf : fewOk w h l = false := by
        unfold fewOk shapesOk
        rw [decide_eq_true hl5, Bool.true_and, hs']
        rfl
      rw [hn hf]
      refine Ev.congr (fun k => ?_) (Ev.now _)
      rw [if_neg hl, areShapes_f, hs']
      simp

theorem run_count (l : List (List Int)) : ∀ s : Nat, s < 5000 → (runV cnVis l (s : Int)).2 = ((min (s + l.length) 5000 : Nat) : Int) := by
  induction l with
  | nil =>
    intro s hs
    simp only [runV, List.length_nil, Nat.add_zero, Nat.min_eq_left (Nat.le_of_lt hs)]
  | cons x r ih =>
    intro s hs
    have e : wrap64 ((s : Int) + 1) = ((s + 1 : Nat) : Int) := w1 (by omega)
    have ev : cnVis x (s : Int) = (decide (((s + 1 : Nat) : Int) < 5000), ((s + 1 : Nat) : Int)) := by unfold cnVis; rw [e]
    rw [runV, ev]
    clear e ev
    by_cases hc : s + 1 < 5000
    · have h1 : decide (((s + 1 : Nat) : Int) < 5000) = true := decide_eq_true (by omega)
      simp only [h1, if_true]
      rw [ih (s + 1) hc, List.length_cons]
      have e2 : min (s + 1 + r.length) 5000 = min (s + (r.length + 1)) 5000 := by omega
      rw [e2]
    · have h1 : decide (((s + 1 : Nat) : Int) < 5000) = false := decide_eq_false (by omega)
      simp only [h1, Bool.false_eq_true, if_false]
      rw [List.length_cons]
      have e2 : min (s + (r.length + 1)) 5000 = s + 1 := by omega
      rw [e2]
theorem both_CountNests (w h : Int) (l : List Int) (turn : Bool) : ∃ n : Int, Ev (fun k => spec_CountNests.f k w h l turn) n ∧ Ev (fun k => impl_CountNests.f k w h l turn) n := by
  have hf := few_f w h l
  by_cases hs : fewOk w h l = true
  · rw [hs] at hf
    obtain ⟨s1, s2, s3, s4⟩ := few_shapes w h l hs
    obtain ⟨W, H, ns, rfl, rfl, rfl, w1_, w2, w3, w4, w5, w6⟩ := shapes_nat w h l 12 s1
    obtain ⟨f1, F0, f2, f3⟩ := full_free' W H w2 w4
    have hpos : (0 ≤ ((W * H : Nat) : Int)) = True := nn_t _
    have hns : ∀ M ∈ ns, lt2 M (W * H) ∧ M ≠ 0 := fun M hM => ⟨w6 M hM, fun e => by
      have : (0 : Int) ∈ ns.map Int.ofNat := List.mem_map.mpr ⟨M, hM, by rw [e]; rfl⟩
      simp [this] at s4⟩
    obtain ⟨A, Al⟩ := spec_all w1_ w2 w4 turn 1 (by decide) ns F0 5000 hns w5 f3 (by decide) (Nat.le_refl _)
    have B := en_all w1_ w2 w4 turn cnVis ns hns w5 ns.length [] F0 (0 : Int) rfl (Nat.zero_le _) f3
    rw [List.length_nil, List.drop_zero] at B
    have em : (allN W H turn ns F0).map (([] : List Int) ++ ·) = allN W H turn ns F0 := by simp
    rw [em] at B
    have hr := run_count (allN W H turn ns F0) 0 (by decide)
    generalize allN W H turn ns F0 = all at A Al B hr
    have he : (all.take 5000).length = min (0 + all.length) 5000 := by rw [List.length_take, Nat.zero_add, Nat.min_comm]
    generalize min (0 + all.length) 5000 = n at he hr
    generalize all.take 5000 = firsts at A he
    refine ⟨(n : Int), ?_, ?_⟩
    · unfold spec_CountNests.f
      refine Ev.bind hf ?_
      simp only [if_true, f1, f2, hpos]
      refine Ev.bind A ?_
      rw [← he]
      exact Ev.now _
    · unfold impl_CountNests.f
      refine gate (W : Int) (H : Int) (ns.map Int.ofNat) (-1) _ _ (fun _ => ?_) (fun e => by rw [e] at hs; exact absurd hs (by simp))
      simp only [f1, f2, hpos, if_true]
      refine Ev.bind B ?_
      rw [← hr]
      exact Ev.now _
  · have hs' : fewOk w h l = false := by simpa using hs
    rw [hs'] at hf
    refine ⟨-1, ?_, ?_⟩
    · unfold spec_CountNests.f
      refine Ev.bind hf ?_
      simp only [Bool.false_eq_true, if_false]
      exact Ev.now _
    · unfold impl_CountNests.f
      exact gate w h l (-1) _ _ (fun e => by rw [e] at hs'; exact absurd hs' (by simp)) (fun _ => rfl)
theorem FnExactCountNests : laws_FnExactCountNests.Pure := by
  intro w h l turn _ _ _ _ _
  refine Ev.rounds (g := fun k => laws_FnExactCountNests.f k w h l turn) ?_
  unfold laws_FnExactCountNests.f
  by_cases hl : (l.length : Int) > 1048576
  · simp only [hl, if_true]
    exact Ev.now _
  · have hl' : l.length ≤ 1048576 := by omega
    simp only [hl, if_false]
    obtain ⟨n, hs, hi⟩ := both_CountNests w h l turn
    refine Ev.bind (ev_toIntS l hl') (Ev.bind hs (Ev.bind (ev_toIntS l hl') (Ev.bind hi ?_)))
    simp only [if_true]
    refine Ev.bind (ev_toIntS l hl') (Ev.bind (ev_eqS' l hl') ?_)
    simp only [if_true]
    exact Ev.now _

end Go.Proofs.Ytpnngdljfnhnfaa.Pure
