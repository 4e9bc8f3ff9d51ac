/- FnNests: what the great law asks of nests, seen in what they are: places of shapes within free cells, one after the other. -/
import Derived.Test.YtpnngdljfnhnfaaXFnNestsx12
namespace Go.Proofs.Ytpnngdljfnhnfaa.Pure
open Go.RowKit Go.Proofs.Ytpnngdljfnhnfaa.XFnNests Go.Proofs.YtpnngdljfnhnfaaW.PrintWords Go.Proofs.YtpnngdljfnhnfaaW.PrintLast
set_option linter.unusedVariables false
set_option linter.unusedSimpArgs false
theorem w64 {x : Int} (h0 : -9223372036854775808 ≤ x) (h1 : x ≤ 9223372036854775807) : wrap64 x = x := by
  unfold wrap64
  omega
theorem rd_get (l : List Int) (i : Nat) (h : i < l.length) : rd l (i : Int) = l[i] := by simp [rd, List.getD_eq_getElem?_getD, h]
theorem w1 {i : Nat} (h : i ≤ 140737488355328) : wrap64 ((i : Int) + 1) = ((i + 1 : Nat) : Int) := by
  unfold wrap64
  omega
theorem lt_t {i n : Nat} (h : i < n) : ((i : Int) < (n : Int)) = True := eq_true (by omega)
theorem lt_f {i n : Nat} (h : n ≤ i) : ((i : Int) < (n : Int)) = False := eq_false (by omega)
theorem nn_t (i : Nat) : (0 ≤ (i : Int)) = True := eq_true (by omega)
theorem w64n (n : Nat) (h : n ≤ 9223372036854775807) : wrap64 (n : Int) = (n : Int) := w64 (by omega) (by omega)
theorem wrap_i64 (n : Int) : IntKind.i64.wrap n = wrap64 n := by
  simp only [IntKind.wrap, IntKind.bits, IntKind.signed, wrap64, Bool.true_and, decide_eq_true_eq, ge_iff_le]
  split <;> omega
theorem ofInt_i64 (a : Nat) (ha : a < 18446744073709551616) : (BitVec.ofInt 64 (a : Int)).toNat = a := by
  rw [BitVec.ofInt_natCast, BitVec.toNat_ofNat]; exact Nat.mod_eq_of_lt (by omega)
theorem i64_and (a b : Nat) (ha : a < 9223372036854775808) (hb : b < 9223372036854775808) : Go.bits .and .i64 (a : Int) (b : Int) = ((a &&& b : Nat) : Int) := by
  have hx : a &&& b < 2 ^ 63 := Nat.and_lt_two_pow _ (by omega)
  show IntKind.i64.wrap ((BitVec.ofInt 64 (a : Int) &&& BitVec.ofInt 64 (b : Int)).toNat : Int) = _
  rw [BitVec.toNat_and, ofInt_i64 a (by omega), ofInt_i64 b (by omega), wrap_i64, w64 (by omega) (by omega)]
theorem i64_or (a b : Nat) (ha : a < 9223372036854775808) (hb : b < 9223372036854775808) : Go.bits .or .i64 (a : Int) (b : Int) = ((a ||| b : Nat) : Int) := by
  have hx : a ||| b < 2 ^ 63 := Nat.or_lt_two_pow (by omega) (by omega)
  show IntKind.i64.wrap ((BitVec.ofInt 64 (a : Int) ||| BitVec.ofInt 64 (b : Int)).toNat : Int) = _
  rw [BitVec.toNat_or, ofInt_i64 a (by omega), ofInt_i64 b (by omega), wrap_i64, w64 (by omega) (by omega)]
def andn (a b : Nat) : Nat := a &&& (18446744073709551615 - b)
theorem i64_andNot (a b : Nat) (ha : a < 9223372036854775808) (hb : b < 9223372036854775808) : Go.bits .andNot .i64 (a : Int) (b : Int) = ((andn a b : Nat) : Int) := by
  have hx : andn a b ≤ a := Nat.and_le_left
  show IntKind.i64.wrap ((BitVec.ofInt 64 (a : Int) &&& ~~~BitVec.ofInt 64 (b : Int)).toNat : Int) = _
  rw [BitVec.toNat_and, BitVec.toNat_not, ofInt_i64 a (by omega), ofInt_i64 b (by omega), wrap_i64]
  have e : 2 ^ 64 - 1 - b = 18446744073709551615 - b := by omega
  rw [e, w64]
  · rfl
  · omega
  · have : a &&& (18446744073709551615 - b) ≤ a := Nat.and_le_left
    omega
theorem testBit_andn (a b i : Nat) (ha : a < 18446744073709551616) (hb : b < 18446744073709551616) : (andn a b).testBit i = (a.testBit i && !b.testBit i) := by
  unfold andn
  rw [Nat.testBit_and]
  have := Nat.testBit_two_pow_sub_succ (n := 64) (x := b) (by omega) i
  rw [show (18446744073709551615 - b) = 2 ^ 64 - (b + 1) by omega, this]
  by_cases h : i < 64
  · simp [h]
  · have : a.testBit i = false := Nat.testBit_lt_two_pow (Nat.lt_of_lt_of_le ha (by rw [show 18446744073709551616 = 2 ^ 64 by rfl]; exact Nat.pow_le_pow_right (by omega) (by omega)))
    simp [this]
theorem shl_one (n : Nat) (hn : n ≤ 62) : shl .i64 1 (n : Int) = ((2 ^ n : Nat) : Int) := by
  have h1 : (2 : Nat) ^ n ≤ 2 ^ 62 := Nat.pow_le_pow_right (by omega) hn
  unfold shl
  rw [Int.toNat_natCast, show IntKind.i64.bits = 64 from rfl, Nat.min_eq_left (by omega), wrap_i64, w64]
  · simp
  · have : (0 : Int) ≤ 1 * 2 ^ n := by rw [Int.one_mul]; exact Int.pow_nonneg (by omega)
    omega
  · have : (1 * 2 ^ n : Int) = ((2 ^ n : Nat) : Int) := by simp
    rw [this]
    omega
def tab (w h : Int) : Bool := decide (1 ≤ w ∧ w ≤ 6 ∧ 1 ≤ h ∧ h ≤ 6)
def shapeOk (w h m : Int) : Bool := tab w h && decide (0 ≤ m ∧ m < ((2 ^ (w * h).toNat : Nat) : Int))
theorem wh_le {w h : Int} (ht : tab w h = true) : 1 ≤ w * h ∧ w * h ≤ 36 := by
  simp only [tab, decide_eq_true_eq] at ht
  obtain ⟨h1, h2, h3, h4⟩ := ht
  constructor
  · have := Int.mul_le_mul h1 h3 (by omega) (by omega)
    omega
  · have := Int.mul_le_mul h2 h4 (by omega) (by omega)
    omega
theorem within_f (a b c : Int) : impl_within.f a b c = some (decide (b ≤ a ∧ a ≤ c)) := by
  unfold impl_within.f
  by_cases h : a ≥ b
  · rw [if_pos h]; simp [show b ≤ a from h]
  · rw [if_neg h]; simp [show ¬ b ≤ a from h]
theorem isTable_f (w h : Int) : impl_isTable.f w h = some (tab w h) := by
  unfold impl_isTable.f tab
  simp only [within_f, Option.bind_some]
  by_cases h1 : 1 ≤ w ∧ w ≤ 6
  · simp [h1]
  · simp [h1]
    omega
theorem pow_small {w h : Int} (ht : tab w h = true) : wrap64 (w * h) = w * h ∧ shl .i64 1 (w * h) = ((2 ^ (w * h).toNat : Nat) : Int) ∧ (2 : Nat) ^ (w * h).toNat ≤ 68719476736 ∧ 1 ≤ (2 : Nat) ^ (w * h).toNat := by
  have hb := wh_le ht
  refine ⟨w64 (by omega) (by omega), ?_, ?_, Nat.one_le_two_pow⟩
  · have := shl_one (w * h).toNat (by omega)
    rwa [Int.toNat_of_nonneg (by omega)] at this
  · have : (2 : Nat) ^ (w * h).toNat ≤ 2 ^ 36 := Nat.pow_le_pow_right (by omega) (by omega)
    simpa using this
theorem ShapeOk_f (w h m : Int) : impl_ShapeOk.f w h m = some (shapeOk w h m) := by
  unfold impl_ShapeOk.f
  simp only [isTable_f, Option.bind_some]
  by_cases ht : tab w h = true
  · obtain ⟨e1, e2, e3, e4⟩ := pow_small ht
    have hb := wh_le ht
    simp only [ht, if_true, shapeOk, Bool.true_and, e1, e2]
    by_cases h1 : m ≥ 0
    · rw [if_pos h1, if_pos (by omega)]
      simp [show 0 ≤ m from h1]
    · rw [if_neg h1]
      simp [show ¬ 0 ≤ m from h1]
  · simp [ht, shapeOk]
theorem tdiv_nn (a b : Nat) : Int.tdiv (a : Int) (b : Int) = ((a / b : Nat) : Int) := rfl
theorem tmod_nn (a b : Nat) : Int.tmod (a : Int) (b : Int) = ((a % b : Nat) : Int) := rfl
def ptOf (w c : Nat) : S46 := ⟨((c % w : Nat) : Int), ((c / w : Nat) : Int)⟩
def cellsOf (N M : Nat) : List Nat := (List.range' 0 N).filter M.testBit
theorem shr_nat (M i : Nat) (hi : i ≤ 64) : shr .i64 (M : Int) (i : Int) = ((M / 2 ^ i : Nat) : Int) := by
  unfold shr
  rw [Int.toNat_natCast, show IntKind.i64.bits = 64 from rfl, Nat.min_eq_left hi]
  simp
theorem bit_nat (M i : Nat) (hM : M < 9223372036854775808) : Go.bits .and .i64 ((M / 2 ^ i : Nat) : Int) 1 = if M.testBit i = true then 1 else 0 := by
  have h1 : M / 2 ^ i ≤ M := Nat.div_le_self _ _
  have := i64_and (M / 2 ^ i) 1 (by omega) (by omega)
  rw [show ((1 : Nat) : Int) = 1 from rfl] at this
  rw [this, Nat.and_one_is_mod, Nat.testBit_eq_decide_div_mod_eq]
  have h2 := Nat.mod_two_eq_zero_or_one (M / 2 ^ i)
  rcases h2 with h2 | h2 <;> simp [h2]
theorem has_f (M i : Nat) (hM : M < 9223372036854775808) (hi : i ≤ 64) : impl_has.f (M : Int) (i : Int) = some (M.testBit i) := by
  unfold impl_has.f
  rw [if_pos (by omega), shr_nat M i hi, bit_nat M i hM]
  by_cases h : M.testBit i = true <;> simp [h]
theorem cells_l (w M N : Nat) (hw : 1 ≤ w) (hw6 : w ≤ 6) (hN : N ≤ 36) (hM : M < 9223372036854775808) (d : Nat) : ∀ (i : Nat) (acc : List S46), N - i = d → i ≤ N → acc.length ≤ i → Ev (fun k => impl_cells.l0 k (w : Int) (M : Int) acc (N : Int) (i : Int)) (acc ++ ((List.range' i d).filter M.testBit).map (ptOf w)) := by
  induction d with
  | zero =>
    intro i acc hd hi ha
    refine Ev.step (f := fun _ => some acc) (fun k => ?_) (by simpa using Ev.now acc)
    simp only [impl_cells.l0, lt_f (show N ≤ i by omega), if_false]
  | succ d ih =>
    intro i acc hd hi ha
    have hlt : i < N := by omega
    have hdw : i / w ≤ i := Nat.div_le_self _ _
    rw [List.range'_succ, List.filter_cons]
    by_cases hb : M.testBit i = true
    · rw [if_pos hb]
      have := ih (i + 1) (acc ++ [ptOf w i]) (by omega) (by omega) (by simp; omega)
      rw [List.append_assoc, List.singleton_append] at this
      refine Ev.step (f := fun k => impl_cells.l0 k (w : Int) (M : Int) (acc ++ [ptOf w i]) (N : Int) ((i + 1 : Nat) : Int)) (fun k => ?_) this
      simp only [impl_cells.l0, lt_t hlt, if_true, has_f M i hM (by omega), Option.bind_some, hb, w1 (show i ≤ 140737488355328 by omega), tdiv_nn, tmod_nn, w64n (i / w) (by omega)]
      rw [if_neg (by omega), if_pos (by omega)]
      rfl
    · rw [if_neg hb]
      refine Ev.step (f := fun k => impl_cells.l0 k (w : Int) (M : Int) acc (N : Int) ((i + 1 : Nat) : Int)) (fun k => ?_) (ih (i + 1) acc (by omega) (by omega) (by omega))
      simp only [impl_cells.l0, lt_t hlt, if_true, has_f M i hM (by omega), Option.bind_some, hb, w1 (show i ≤ 140737488355328 by omega), if_false, Bool.false_eq_true]
theorem cells_f (w h M : Nat) (hw : 1 ≤ w) (hw6 : w ≤ 6) (hh : h ≤ 6) (hM : M < 9223372036854775808) : Ev (fun k => impl_cells.f k (w : Int) (h : Int) (M : Int)) ((cellsOf (w * h) M).map (ptOf w)) := by
  have hN : w * h ≤ 36 := Nat.mul_le_mul hw6 hh
  have := cells_l w M (w * h) hw hw6 hN hM (w * h) 0 [] (by omega) (by omega) (by simp)
  rw [List.nil_append] at this
  refine Ev.congr (fun k => ?_) this
  unfold impl_cells.f
  rw [show (w : Int) * (h : Int) = ((w * h : Nat) : Int) by simp, w64n _ (by omega)]
  rfl
theorem no_bits (M i d : Nat) (h : M < 2 ^ i) : (List.range' i d).filter M.testBit = [] := by
  rw [List.filter_eq_nil_iff]
  intro j hj
  have := (List.mem_range'_1.mp hj).1
  rw [Nat.testBit_lt_two_pow (Nat.lt_of_lt_of_le h (Nat.pow_le_pow_right (by omega) this))]
  simp
theorem l08Cells_l (w M N : Nat) (hw : 1 ≤ w) (hw6 : w ≤ 6) (hN : N ≤ 36) (hM : M < 2 ^ N) (d : Nat) : ∀ (i : Nat) (acc : List S46), N - i = d → i ≤ N → acc.length ≤ i → Ev (fun k => spec_l08Cells.l0 k (w : Int) (M : Int) acc (i : Int)) (acc ++ ((List.range' i d).filter M.testBit).map (ptOf w)) := by
  have hM' : M < 9223372036854775808 := Nat.lt_of_lt_of_le hM (by
    have : (2 : Nat) ^ N ≤ 2 ^ 36 := Nat.pow_le_pow_right (by omega) hN
    omega)
  have stop : ∀ (i d : Nat) (acc : List S46), i ≤ N → M < 2 ^ i → Ev (fun k => spec_l08Cells.l0 k (w : Int) (M : Int) acc (i : Int)) (acc ++ ((List.range' i d).filter M.testBit).map (ptOf w)) := by
    intro i d acc hi h
    rw [no_bits M i d h]
    refine Ev.step (f := fun _ => some acc) (fun k => ?_) (by simpa using Ev.now acc)
    simp only [spec_l08Cells.l0, nn_t, if_true, shr_nat M i (by omega), Nat.div_eq_of_lt h]
    rfl
  induction d with
  | zero =>
    intro i acc hd hi ha
    have : i = N := by omega
    subst this
    exact stop i 0 acc hi hM
  | succ d ih =>
    intro i acc hd hi ha
    by_cases hz : M < 2 ^ i
    · exact stop i (d + 1) acc hi hz
    have hdw : i / w ≤ i := Nat.div_le_self _ _
    have hpos : 0 < M / 2 ^ i := Nat.div_pos (by omega) (Nat.pow_pos (by omega))
    have hpos' : (((M / 2 ^ i : Nat) : Int) > 0) = True := eq_true (by omega)
    rw [List.range'_succ, List.filter_cons]
    by_cases hb : M.testBit i = true
    · rw [if_pos hb]
      have := ih (i + 1) (acc ++ [ptOf w i]) (by omega) (by omega) (by simp; omega)
      rw [List.append_assoc, List.singleton_append] at this
      refine Ev.step (f := fun k => spec_l08Cells.l0 k (w : Int) (M : Int) (acc ++ [ptOf w i]) ((i + 1 : Nat) : Int)) (fun k => ?_) this
      simp only [spec_l08Cells.l0, nn_t, if_true, shr_nat M i (by omega), hpos', bit_nat M i hM', hb, w1 (show i ≤ 140737488355328 by omega), tdiv_nn, tmod_nn, w64n (i / w) (by omega)]
      rw [if_neg (by omega), if_pos (by omega)]
      rfl
    · rw [if_neg hb]
      refine Ev.step (f := fun k => spec_l08Cells.l0 k (w : Int) (M : Int) acc ((i + 1 : Nat) : Int)) (fun k => ?_) (ih (i + 1) acc (by omega) (by omega) (by omega))
      simp only [spec_l08Cells.l0, nn_t, if_true, shr_nat M i (by omega), hpos', bit_nat M i hM', hb, w1 (show i ≤ 140737488355328 by omega), if_false, Bool.false_eq_true]
      rfl
theorem l08Cells_f (w h M : Nat) (hw : 1 ≤ w) (hw6 : w ≤ 6) (hh : h ≤ 6) (hM : M < 2 ^ (w * h)) : Ev (fun k => spec_l08Cells.f k (w : Int) (M : Int)) ((cellsOf (w * h) M).map (ptOf w)) := by
  have hN : w * h ≤ 36 := Nat.mul_le_mul hw6 hh
  have := l08Cells_l w M (w * h) hw hw6 hN hM (w * h) 0 [] (by omega) (by omega) (by simp)
  rw [List.nil_append] at this
  exact this
theorem rdP_get (l : List S46) (i : Nat) (h : i < l.length) : rd_T46 l (i : Int) = l[i] := by simp [rd_T46, List.getD_eq_getElem?_getD, h]
def mvP (m : Nat) (p : S46) : S46 :=
  let q : S46 := if 4 ≤ m then ⟨-p.f0, p.f1⟩ else p
  if m % 4 = 0 then q else if m % 4 = 1 then ⟨-q.f1, q.f0⟩ else if m % 4 = 2 then ⟨-q.f0, -q.f1⟩ else ⟨q.f1, -q.f0⟩
theorem neg64 (x : Int) (h : -1000 ≤ x ∧ x ≤ 1000) : wrap64 (-x) = -x := w64 (by omega) (by omega)
theorem moved_f (m : Nat) (hm : m < 8) (x y : Int) (hx : -1000 ≤ x ∧ x ≤ 1000) (hy : -1000 ≤ y ∧ y ≤ 1000) : Ev (fun k => impl_moved.f k x y (m : Int)) ((mvP m ⟨x, y⟩).f0, (mvP m ⟨x, y⟩).f1) := by
  have nx := neg64 x hx
  have ny := neg64 y hy
  have wx : wrap64 x = x := w64 (by omega) (by omega)
  have wy : wrap64 y = y := w64 (by omega) (by omega)
  have nnx := neg64 (-x) (by omega)
  have nny := neg64 (-y) (by omega)
  refine ⟨8, fun k hk => ?_⟩
  obtain ⟨j, rfl⟩ : ∃ j, k = j + 8 := ⟨k - 8, by omega⟩
  clear hk
  have t0 : Int.tmod 0 4 = 0 := rfl
  have t1 : Int.tmod 1 4 = 1 := rfl
  have t2 : Int.tmod 2 4 = 2 := rfl
  have t3 : Int.tmod 3 4 = 3 := rfl
  have t4 : Int.tmod 4 4 = 0 := rfl
  have t5 : Int.tmod 5 4 = 1 := rfl
  have t6 : Int.tmod 6 4 = 2 := rfl
  have t7 : Int.tmod 7 4 = 3 := rfl
  have a1 : wrap64 1 = 1 := w64 (by omega) (by omega)
  have a2 : wrap64 2 = 2 := w64 (by omega) (by omega)
  have a3 : wrap64 3 = 3 := w64 (by omega) (by omega)
  obtain rfl | rfl | rfl | rfl | rfl | rfl | rfl | rfl : m = 0 ∨ m = 1 ∨ m = 2 ∨ m = 3 ∨ m = 4 ∨ m = 5 ∨ m = 6 ∨ m = 7 := by omega
  all_goals simp [impl_moved.f, impl_moved.j0, impl_moved.l0, mvP, wx, wy, nx, ny, nnx, nny, t0, t1, t2, t3, t4, t5, t6, t7, a1, a2, a3]
def small (B : Int) (p : S46) : Prop := (-B ≤ p.f0 ∧ p.f0 ≤ B) ∧ (-B ≤ p.f1 ∧ p.f1 ≤ B)
theorem mvP_small (B : Int) (m : Nat) (p : S46) (h : small B p) : small B (mvP m p) := by
  obtain ⟨⟨h1, h2⟩, h3, h4⟩ := h
  unfold mvP small
  by_cases c : 4 ≤ m
  · simp only [c, if_true]
    split
    · exact ⟨⟨by simp only []; omega, by simp only []; omega⟩, h3, h4⟩
    · split
      · exact ⟨⟨by simp only []; omega, by simp only []; omega⟩, by simp only []; omega, by simp only []; omega⟩
      · split
        · exact ⟨⟨by simp only []; omega, by simp only []; omega⟩, by simp only []; omega, by simp only []; omega⟩
        · exact ⟨⟨by simp only []; omega, by simp only []; omega⟩, by simp only []; omega, by simp only []; omega⟩
  · simp only [c, if_false]
    split
    · exact ⟨⟨h1, h2⟩, h3, h4⟩
    · split
      · exact ⟨⟨by simp only []; omega, by simp only []; omega⟩, by simp only []; omega, by simp only []; omega⟩
      · split
        · exact ⟨⟨by simp only []; omega, by simp only []; omega⟩, by simp only []; omega, by simp only []; omega⟩
        · exact ⟨⟨by simp only []; omega, by simp only []; omega⟩, by simp only []; omega, by simp only []; omega⟩
theorem mvP_inj (m : Nat) (p q : S46) (h : mvP m p = mvP m q) : p = q := by
  obtain ⟨a, b⟩ := p
  obtain ⟨c, d⟩ := q
  have h0 := congrArg S46.f0 h
  have h1 := congrArg S46.f1 h
  clear h
  unfold mvP at h0 h1
  by_cases e : 4 ≤ m
  · simp only [e, if_true] at h0 h1
    split at h0 <;> rename_i g
    · simp only [g, if_true] at h0 h1
      simp only [S46.mk.injEq]; omega
    · simp only [g, if_false] at h1
      split at h0 <;> rename_i g2
      · simp only [g2, if_true] at h0 h1
        simp only [S46.mk.injEq]; omega
      · simp only [g2, if_false] at h1
        split at h0 <;> rename_i g3
        · simp only [g3, if_true] at h0 h1
          simp only [S46.mk.injEq]; omega
        · simp only [g3, if_false] at h0 h1
          simp only [S46.mk.injEq]; omega
  · simp only [e, if_false] at h0 h1
    split at h0 <;> rename_i g
    · simp only [g, if_true] at h0 h1
      simp only [S46.mk.injEq]; omega
    · simp only [g, if_false] at h1
      split at h0 <;> rename_i g2
      · simp only [g2, if_true] at h0 h1
        simp only [S46.mk.injEq]; omega
      · simp only [g2, if_false] at h1
        split at h0 <;> rename_i g3
        · simp only [g3, if_true] at h0 h1
          simp only [S46.mk.injEq]; omega
        · simp only [g3, if_false] at h0 h1
          simp only [S46.mk.injEq]; omega
def lowF (p : Int × Int) (q : S46) : Int × Int := (mn p.1 q.f0, mn p.2 q.f1)
def lowOf (l : List S46) : Int × Int := l.foldl lowF ((rd_T46 l 0).f0, (rd_T46 l 0).f1)
def subP (o : Int × Int) (q : S46) : S46 := ⟨q.f0 - o.1, q.f1 - o.2⟩
theorem box_l (l : List S46) (hl : l.length ≤ 1000) (d : Nat) : ∀ (i : Nat) (a b u v : Int), l.length - i = d → i ≤ l.length → ∃ u' v', Ev (fun k => impl_box.l0 k l (l.length : Int) (i : Int) a b u v) (((l.drop i).foldl lowF (a, b)).1, ((l.drop i).foldl lowF (a, b)).2, u', v') := by
  induction d with
  | zero =>
    intro i a b u v hd hi
    refine ⟨u, v, Ev.step (f := fun _ => some (a, b, u, v)) (fun k => ?_) ?_⟩
    · simp only [impl_box.l0, lt_f (show l.length ≤ i by omega), if_false]
    · rw [List.drop_of_length_le (by omega)]
      exact Ev.now _
  | succ d ih =>
    intro i a b u v hd hi
    have hlt : i < l.length := by omega
    obtain ⟨u', v', h⟩ := ih (i + 1) (mn a (rd_T46 l (i : Int)).f0) (mn b (rd_T46 l (i : Int)).f1) (mx u (rd_T46 l (i : Int)).f0) (mx v (rd_T46 l (i : Int)).f1) (by omega) (by omega)
    refine ⟨u', v', Ev.step (fun k => ?_) (by rw [List.drop_eq_getElem_cons hlt, List.foldl_cons, ← rdP_get l i hlt]; exact h)⟩
    simp only [impl_box.l0, lt_t hlt, nn_t, if_true, w1 (show i ≤ 140737488355328 by omega)]
theorem box_f (l : List S46) (h0 : 0 < l.length) (hl : l.length ≤ 1000) : ∃ u v, Ev (fun k => impl_box.f k l) ((lowOf l).1, (lowOf l).2, u, v) := by
  obtain ⟨u, v, h⟩ := box_l l hl l.length 0 (rd_T46 l 0).f0 (rd_T46 l 0).f1 (rd_T46 l 0).f0 (rd_T46 l 0).f1 (by omega) (by omega)
  refine ⟨u, v, Ev.congr (fun k => ?_) h⟩
  unfold impl_box.f
  rw [if_pos (by omega)]
  rfl
theorem low_le (l : List S46) (a b : Int) : (l.foldl lowF (a, b)).1 ≤ a ∧ (l.foldl lowF (a, b)).2 ≤ b ∧ ∀ q ∈ l, (l.foldl lowF (a, b)).1 ≤ q.f0 ∧ (l.foldl lowF (a, b)).2 ≤ q.f1 := by
  induction l generalizing a b with
  | nil => exact ⟨Int.le_refl _, Int.le_refl _, fun q hq => by simp at hq⟩
  | cons x r ih =>
    rw [List.foldl_cons]
    obtain ⟨h1, h2, h3⟩ := ih (mn a x.f0) (mn b x.f1)
    have e1 : mn a x.f0 ≤ a ∧ mn a x.f0 ≤ x.f0 := by unfold mn; split <;> omega
    have e2 : mn b x.f1 ≤ b ∧ mn b x.f1 ≤ x.f1 := by unfold mn; split <;> omega
    show (r.foldl lowF (mn a x.f0, mn b x.f1)).1 ≤ a ∧ (r.foldl lowF (mn a x.f0, mn b x.f1)).2 ≤ b ∧ _
    refine ⟨by omega, by omega, fun q hq => ?_⟩
    rcases List.mem_cons.mp hq with rfl | hq
    · show (r.foldl lowF (mn a q.f0, mn b q.f1)).1 ≤ _ ∧ (r.foldl lowF (mn a q.f0, mn b q.f1)).2 ≤ _
      omega
    · exact h3 q hq
theorem low_small (B : Int) (l : List S46) (h : ∀ q ∈ l, small B q) (a b : Int) (ha : -B ≤ a ∧ a ≤ B) (hb : -B ≤ b ∧ b ≤ B) : -B ≤ (l.foldl lowF (a, b)).1 ∧ (l.foldl lowF (a, b)).1 ≤ B ∧ -B ≤ (l.foldl lowF (a, b)).2 ∧ (l.foldl lowF (a, b)).2 ≤ B := by
  induction l generalizing a b with
  | nil => exact ⟨ha.1, ha.2, hb.1, hb.2⟩
  | cons x r ih =>
    rw [List.foldl_cons]
    have hx := h x (by simp)
    obtain ⟨⟨x1, x2⟩, x3, x4⟩ := hx
    refine ih (fun q hq => h q (by simp [hq])) (mn a x.f0) (mn b x.f1) ?_ ?_
    · unfold mn; split <;> omega
    · unfold mn; split <;> omega
theorem lowOf_facts (B : Int) (l : List S46) (h0 : 0 < l.length) (h : ∀ q ∈ l, small B q) : (-B ≤ (lowOf l).1 ∧ (lowOf l).1 ≤ B ∧ -B ≤ (lowOf l).2 ∧ (lowOf l).2 ≤ B) ∧ ∀ q ∈ l, (lowOf l).1 ≤ q.f0 ∧ (lowOf l).2 ≤ q.f1 := by
  have e : rd_T46 l 0 = l[0] := rdP_get l 0 h0
  have hx := h l[0] (List.getElem_mem h0)
  obtain ⟨⟨x1, x2⟩, x3, x4⟩ := hx
  unfold lowOf
  rw [e]
  exact ⟨low_small B l h _ _ ⟨x1, x2⟩ ⟨x3, x4⟩, (low_le l _ _).2.2⟩
theorem sub64 (x y : Int) (hx : -1000 ≤ x ∧ x ≤ 1000) (hy : -1000 ≤ y ∧ y ≤ 1000) : wrap64 (x - y) = x - y := w64 (by omega) (by omega)
theorem moveon_l1 (L : List S46) (hl : L.length ≤ 1000) (hs : ∀ q ∈ L, small 1000 q) (o : Int × Int) (ho : (-1000 ≤ o.1 ∧ o.1 ≤ 1000) ∧ (-1000 ≤ o.2 ∧ o.2 ≤ 1000)) (d : Nat) : ∀ (i : Nat) (ys : List S46), L.length - i = d → i ≤ L.length → ys.length = L.length → ys.take i = (L.take i).map (subP o) → ys.drop i = L.drop i → Ev (fun k => impl_movedOn.l1 k ys (L.length : Int) (i : Int) o.1 o.2) (L.map (subP o)) := by
  induction d with
  | zero =>
    intro i ys hd hi hy ht hdr
    have e : i = L.length := by omega
    subst e
    rw [List.take_length, ← hy, List.take_length] at ht
    refine Ev.step (f := fun _ => some ys) (fun k => ?_) (by rw [← ht]; exact Ev.now ys)
    simp only [impl_movedOn.l1, lt_f (Nat.le_refl L.length), if_false]
  | succ d ih =>
    intro i ys hd hi hy ht hdr
    have hlt : i < L.length := by omega
    have hlt' : i < ys.length := by omega
    have e : ys[i] = L[i] := by
      have h1 := List.drop_eq_getElem_cons hlt'
      have h2 := List.drop_eq_getElem_cons hlt
      rw [h1, h2] at hdr
      exact (List.cons.inj hdr).1
    obtain ⟨⟨x1, x2⟩, x3, x4⟩ := hs L[i] (List.getElem_mem hlt)
    have := ih (i + 1) (ys.set i (subP o L[i])) (by omega) (by omega) (by simp [hy]) ?_ ?_
    · refine Ev.step (fun k => ?_) this
      have hltb : ((i : Int) < (ys.length : Int)) = True := lt_t hlt'
      simp only [impl_movedOn.l1, lt_t hlt, hltb, nn_t, if_true, w1 (show i ≤ 140737488355328 by omega), Int.toNat_natCast, rdP_get ys i hlt', e, sub64 _ _ ⟨x1, x2⟩ ho.1, sub64 _ _ ⟨x3, x4⟩ ho.2]
      rfl
    · rw [List.take_add_one, List.take_add_one, List.map_append, List.take_set_of_le (Nat.le_refl _), ht]
      simp [hlt, hlt']
    · rw [List.drop_set_of_lt (by omega)]
      have h1 := List.drop_eq_getElem_cons hlt'
      have h2 := List.drop_eq_getElem_cons hlt
      rw [h1, h2] at hdr
      exact (List.cons.inj hdr).2
def movedL (m : Nat) (L : List S46) : List S46 := (L.map (mvP m)).map (subP (lowOf (L.map (mvP m))))
theorem moveon_l0 (m : Nat) (hm : m < 8) (xs : List S46) (hl : xs.length ≤ 1000) (hs : ∀ q ∈ xs, small 1000 q) (r : List S46) (d : Nat) : ∀ (i : Nat) (acc : List S46), xs.length - i = d → i ≤ xs.length → acc = (xs.take i).map (mvP m) → Ev (fun k => (impl_box.f k (xs.map (mvP m))).bind fun bt => impl_movedOn.l1 k (xs.map (mvP m)) ((xs.map (mvP m)).length : Int) 0 bt.1 bt.2.1) r → Ev (fun k => impl_movedOn.l0 k (m : Int) acc xs (xs.length : Int) (i : Int)) r := by
  induction d with
  | zero =>
    intro i acc hd hi ha h
    have e : i = xs.length := by omega
    subst e
    rw [List.take_length] at ha
    subst ha
    refine Ev.step (fun k => ?_) h
    simp only [impl_movedOn.l0, lt_f (Nat.le_refl xs.length), if_false]
  | succ d ih =>
    intro i acc hd hi ha h
    have hlt : i < xs.length := by omega
    obtain ⟨x1, x2⟩ := hs xs[i] (List.getElem_mem hlt)
    have := ih (i + 1) (acc ++ [mvP m xs[i]]) (by omega) (by omega) (by rw [ha, List.take_add_one, List.getElem?_eq_getElem hlt, Option.toList_some, List.map_append, List.map_singleton]) h
    refine Ev.step (f := fun k => (impl_moved.f k (xs[i]).f0 (xs[i]).f1 (m : Int)).bind fun bt => impl_movedOn.l0 k (m : Int) (acc ++ [⟨bt.1, bt.2⟩]) xs (xs.length : Int) ((i + 1 : Nat) : Int)) (fun k => ?_) (Ev.bind (moved_f m hm _ _ x1 x2) this)
    have hal : acc.length < 8796093022208 := by rw [ha]; simp; omega
    simp only [impl_movedOn.l0, lt_t hlt, nn_t, if_true, w1 (show i ≤ 140737488355328 by omega), rdP_get xs i hlt, hal]
theorem movedOn_f (m : Nat) (hm : m < 8) (xs : List S46) (h0 : 0 < xs.length) (hl : xs.length ≤ 1000) (hs : ∀ q ∈ xs, small 1000 q) : Ev (fun k => impl_movedOn.f k xs (m : Int)) (movedL m xs) := by
  have hs' : ∀ q ∈ xs.map (mvP m), small 1000 q := by
    intro q hq
    obtain ⟨p, hp, rfl⟩ := List.mem_map.mp hq
    exact mvP_small _ m p (hs p hp)
  refine Ev.congr (fun k => rfl) (moveon_l0 m hm xs hl hs _ xs.length 0 [] (by omega) (by omega) (by simp) ?_)
  obtain ⟨u, v, hb⟩ := box_f (xs.map (mvP m)) (by simpa using h0) (by simpa using hl)
  obtain ⟨⟨l1, l2, l3, l4⟩, _⟩ := lowOf_facts 1000 (xs.map (mvP m)) (by simpa using h0) hs'
  exact Ev.bind hb (moveon_l1 (xs.map (mvP m)) (by simpa using hl) hs' (lowOf (xs.map (mvP m))) ⟨⟨l1, l2⟩, l3, l4⟩ _ 0 _ rfl (by omega) rfl (by simp) rfl)
theorem corner_l1 (L : List S46) (hl : L.length ≤ 1000) (hs : ∀ q ∈ L, small 1000 q) (o : Int × Int) (ho : (-1000 ≤ o.1 ∧ o.1 ≤ 1000) ∧ (-1000 ≤ o.2 ∧ o.2 ≤ 1000)) (d : Nat) : ∀ (i : Nat) (acc : List S46), L.length - i = d → i ≤ L.length → acc = (L.take i).map (subP o) → Ev (fun k => spec_l06Corner.l1 k o.1 o.2 acc L (L.length : Int) (i : Int)) (L.map (subP o)) := by
  induction d with
  | zero =>
    intro i acc hd hi ha
    have e : i = L.length := by omega
    subst e
    rw [List.take_length] at ha
    subst ha
    refine Ev.step (f := fun _ => some _) (fun k => ?_) (Ev.now _)
    simp only [spec_l06Corner.l1, lt_f (Nat.le_refl L.length), if_false]
  | succ d ih =>
    intro i acc hd hi ha
    have hlt : i < L.length := by omega
    obtain ⟨⟨x1, x2⟩, x3, x4⟩ := hs L[i] (List.getElem_mem hlt)
    refine Ev.step (fun k => ?_) (ih (i + 1) (acc ++ [subP o L[i]]) (by omega) (by omega) (by rw [ha, List.take_add_one, List.getElem?_eq_getElem hlt, Option.toList_some, List.map_append, List.map_singleton]))
    have hal : acc.length < 8796093022208 := by rw [ha]; simp; omega
    simp only [spec_l06Corner.l1, lt_t hlt, nn_t, if_true, w1 (show i ≤ 140737488355328 by omega), rdP_get L i hlt, hal, sub64 _ _ ⟨x1, x2⟩ ho.1, sub64 _ _ ⟨x3, x4⟩ ho.2]
    rfl
theorem corner_l0 (L : List S46) (hl : L.length ≤ 1000) (r : List S46) (d : Nat) : ∀ (i : Nat) (a b : Int), L.length - i = d → i ≤ L.length → Ev (fun k => spec_l06Corner.l1 k ((L.drop i).foldl lowF (a, b)).1 ((L.drop i).foldl lowF (a, b)).2 [] L (L.length : Int) 0) r → Ev (fun k => spec_l06Corner.l0 k L a b L (L.length : Int) (i : Int)) r := by
  induction d with
  | zero =>
    intro i a b hd hi h
    rw [List.drop_of_length_le (by omega)] at h
    refine Ev.step (fun k => ?_) h
    simp only [spec_l06Corner.l0, lt_f (show L.length ≤ i by omega), if_false]
    rfl
  | succ d ih =>
    intro i a b hd hi h
    have hlt : i < L.length := by omega
    rw [List.drop_eq_getElem_cons hlt, List.foldl_cons, ← rdP_get L i hlt] at h
    refine Ev.step (fun k => ?_) (ih (i + 1) (mn a (rd_T46 L (i : Int)).f0) (mn b (rd_T46 L (i : Int)).f1) (by omega) (by omega) h)
    simp only [spec_l06Corner.l0, lt_t hlt, nn_t, if_true, w1 (show i ≤ 140737488355328 by omega)]
theorem corner_f (L : List S46) (h0 : 0 < L.length) (hl : L.length ≤ 1000) (hs : ∀ q ∈ L, small 1000 q) : Ev (fun k => spec_l06Corner.f k L) (L.map (subP (lowOf L))) := by
  obtain ⟨⟨l1, l2, l3, l4⟩, _⟩ := lowOf_facts 1000 L h0 hs
  refine Ev.congr (fun k => ?_) (corner_l0 L hl _ L.length 0 (rd_T46 L 0).f0 (rd_T46 L 0).f1 (by omega) (by omega) (corner_l1 L hl hs (lowOf L) ⟨⟨l1, l2⟩, l3, l4⟩ _ 0 [] rfl (by omega) (by simp)))
  unfold spec_l06Corner.f
  rw [if_pos (by omega)]
  rfl
theorem add_bit (a i : Nat) (h : a.testBit i = false) : a + 2 ^ i = a ||| 2 ^ i := by
  rw [Nat.testBit_eq_decide_div_mod_eq, decide_eq_false_iff_not] at h
  have h0 : a / 2 ^ i % 2 = 0 := by omega
  have hr : a % 2 ^ (i + 1) < 2 ^ i := by
    rw [Nat.mod_pow_succ, h0, Nat.mul_zero, Nat.add_zero]
    exact Nat.mod_lt _ (Nat.pow_pos (by omega))
  have e : 2 ^ (i + 1) * (a / 2 ^ (i + 1)) + a % 2 ^ (i + 1) = a := Nat.div_add_mod a (2 ^ (i + 1))
  have hp : 2 ^ (i + 1) = 2 ^ i + 2 ^ i := by rw [Nat.pow_succ]; omega
  generalize a % 2 ^ (i + 1) = r at hr e
  generalize a / 2 ^ (i + 1) = q at e
  have e1 : r ||| 2 ^ i = r + 2 ^ i := Nat.or_two_pow_eq_add_of_lt hr
  have e2 := Nat.two_pow_add_eq_or_of_lt (i := i + 1) (b := r) (by omega) q
  have e3 := Nat.two_pow_add_eq_or_of_lt (i := i + 1) (b := r + 2 ^ i) (by omega) q
  rw [← e1, ← Nat.or_assoc, ← e2, e, e1] at e3
  rw [← e3]
  omega
theorem idx_lt {w h x y : Nat} (hx : x < w) (hy : y < h) : y * w + x < w * h := by
  have h1 : (y + 1) * w ≤ h * w := Nat.mul_le_mul_right w hy
  rw [Nat.add_mul, Nat.one_mul] at h1
  rw [Nat.mul_comm w h]
  omega
theorem idx_inj {w x y x' y' : Nat} (hx : x < w) (hx' : x' < w) (h : y * w + x = y' * w + x') : x = x' ∧ y = y' := by
  have a := congrArg (· % w) h
  have b := congrArg (· / w) h
  simp only [Nat.mul_add_mod_self_right, Nat.mod_eq_of_lt hx, Nat.mod_eq_of_lt hx'] at a
  have hw : 0 < w := by omega
  rw [Nat.mul_comm y, Nat.mul_comm y'] at b
  simp only [Nat.mul_add_div hw, Nat.div_eq_of_lt hx, Nat.div_eq_of_lt hx', Nat.add_zero] at b
  exact ⟨a, b⟩
theorem pow_lt {w h i : Nat} (hN : w * h ≤ 36) (hi : i < w * h) : 2 ^ i < 2 ^ (w * h) ∧ 2 ^ (w * h) ≤ 68719476736 := by
  refine ⟨Nat.pow_lt_pow_right (by omega) hi, ?_⟩
  have : (2 : Nat) ^ (w * h) ≤ 2 ^ 36 := Nat.pow_le_pow_right (by omega) hN
  simpa using this
def idx (w : Nat) (q : S46) : Nat := q.f1.toNat * w + q.f0.toNat
def putI (w h : Nat) : List S46 → Nat → Nat × Bool
  | [], a => (a, true)
  | q :: r, a => if q.f0 ≥ (w : Int) then (0, false) else if q.f1 ≥ (h : Int) then (0, false) else putI w h r (a ||| 2 ^ idx w q)
def nn (q : S46) : Prop := (0 ≤ q.f0 ∧ q.f0 ≤ 1000) ∧ (0 ≤ q.f1 ∧ q.f1 ≤ 1000)
theorem idx_int (w h : Nat) (hN : w * h ≤ 36) (q : S46) (hq : nn q) (h0 : ¬ q.f0 ≥ (w : Int)) (h1 : ¬ q.f1 ≥ (h : Int)) : wrap64 (wrap64 (q.f1 * (w : Int)) + q.f0) = ((idx w q : Nat) : Int) ∧ idx w q < w * h := by
  obtain ⟨⟨a1, a2⟩, b1, b2⟩ := hq
  obtain ⟨x, hx⟩ := Int.eq_ofNat_of_zero_le a1
  obtain ⟨y, hy⟩ := Int.eq_ofNat_of_zero_le b1
  unfold idx
  rw [hx, hy, Int.toNat_natCast, Int.toNat_natCast]
  have hl : y * w + x < w * h := idx_lt (by omega) (by omega)
  refine ⟨?_, hl⟩
  rw [show (y : Int) * (w : Int) = ((y * w : Nat) : Int) by simp, w64n _ (by omega), show ((y * w : Nat) : Int) + (x : Int) = ((y * w + x : Nat) : Int) by simp, w64n _ (by omega)]
theorem put_impl (w h : Nat) (hN : w * h ≤ 36) (Q : List S46) (hl : Q.length ≤ 1000) (hq : ∀ q ∈ Q, nn q) (d : Nat) : ∀ (i a : Nat), Q.length - i = d → i ≤ Q.length → a < 2 ^ (w * h) → Ev (fun k => impl_movedMask.l0 k (w : Int) (h : Int) (a : Int) Q (Q.length : Int) (i : Int)) (((putI w h (Q.drop i) a).1 : Int), (putI w h (Q.drop i) a).2) := by
  have hp : 2 ^ (w * h) ≤ 68719476736 := by
    have : (2 : Nat) ^ (w * h) ≤ 2 ^ 36 := Nat.pow_le_pow_right (by omega) hN
    simpa using this
  induction d with
  | zero =>
    intro i a hd hi ha
    rw [List.drop_of_length_le (by omega)]
    refine Ev.step (f := fun _ => some ((a : Int), true)) (fun k => ?_) (Ev.now _)
    simp only [impl_movedMask.l0, lt_f (show Q.length ≤ i by omega), if_false]
  | succ d ih =>
    intro i a hd hi ha
    have hlt : i < Q.length := by omega
    have hqi := hq Q[i] (List.getElem_mem hlt)
    rw [List.drop_eq_getElem_cons hlt, putI]
    by_cases c0 : (Q[i]).f0 ≥ (w : Int)
    · refine Ev.step (f := fun _ => some (0, false)) (fun k => ?_) (by rw [if_pos c0]; exact Ev.now _)
      simp only [impl_movedMask.l0, lt_t hlt, nn_t, if_true, rdP_get Q i hlt, c0]
    · by_cases c1 : (Q[i]).f1 ≥ (h : Int)
      · refine Ev.step (f := fun _ => some (0, false)) (fun k => ?_) (by rw [if_neg c0, if_pos c1]; exact Ev.now _)
        simp only [impl_movedMask.l0, lt_t hlt, nn_t, if_true, rdP_get Q i hlt, c0, c1, if_false]
      · obtain ⟨e1, e2⟩ := idx_int w h hN _ hqi c0 c1
        obtain ⟨e3, e4⟩ := pow_lt hN e2
        have hor : a ||| 2 ^ idx w Q[i] < 2 ^ (w * h) := Nat.or_lt_two_pow ha e3
        refine Ev.step (fun k => ?_) (by rw [if_neg c0, if_neg c1]; exact ih (i + 1) (a ||| 2 ^ idx w Q[i]) (by omega) (by omega) hor)
        simp only [impl_movedMask.l0, lt_t hlt, nn_t, if_true, rdP_get Q i hlt, c0, c1, if_false, e1, w1 (show i ≤ 140737488355328 by omega), shl_one (idx w Q[i]) (by omega), i64_or a (2 ^ idx w Q[i]) (by omega) (by omega)]
theorem put_spec (w h : Nat) (hN : w * h ≤ 36) (Q : List S46) (hl : Q.length ≤ 1000) (hq : ∀ q ∈ Q, nn q) (hnd : Q.Pairwise (· ≠ ·)) (d : Nat) : ∀ (i a : Nat), Q.length - i = d → i ≤ Q.length → a < 2 ^ (w * h) → (∀ j, a.testBit j = true → ∃ p ∈ Q.take i, idx w p = j ∧ p.f0 < (w : Int)) → Ev (fun k => spec_l08Put.l0 k (w : Int) (h : Int) (a : Int) Q (Q.length : Int) (i : Int)) (((putI w h (Q.drop i) a).1 : Int), (putI w h (Q.drop i) a).2) := by
  have hp : 2 ^ (w * h) ≤ 68719476736 := by
    have : (2 : Nat) ^ (w * h) ≤ 2 ^ 36 := Nat.pow_le_pow_right (by omega) hN
    simpa using this
  induction d with
  | zero =>
    intro i a hd hi ha _
    rw [List.drop_of_length_le (by omega)]
    refine Ev.step (f := fun _ => some ((a : Int), true)) (fun k => ?_) (Ev.now _)
    simp only [spec_l08Put.l0, lt_f (show Q.length ≤ i by omega), if_false]
  | succ d ih =>
    intro i a hd hi ha hb
    have hlt : i < Q.length := by omega
    have hqi := hq Q[i] (List.getElem_mem hlt)
    rw [List.drop_eq_getElem_cons hlt, putI]
    by_cases c0 : (Q[i]).f0 ≥ (w : Int)
    · refine Ev.step (f := fun _ => some (0, false)) (fun k => ?_) (by rw [if_pos c0]; exact Ev.now _)
      simp only [spec_l08Put.l0, lt_t hlt, nn_t, if_true, rdP_get Q i hlt, c0]
    · by_cases c1 : (Q[i]).f1 ≥ (h : Int)
      · refine Ev.step (f := fun _ => some (0, false)) (fun k => ?_) (by rw [if_neg c0, if_pos c1]; exact Ev.now _)
        simp only [spec_l08Put.l0, lt_t hlt, nn_t, if_true, rdP_get Q i hlt, c0, c1, if_false]
      · obtain ⟨e1, e2⟩ := idx_int w h hN _ hqi c0 c1
        obtain ⟨e3, e4⟩ := pow_lt hN e2
        have hor : a ||| 2 ^ idx w Q[i] < 2 ^ (w * h) := Nat.or_lt_two_pow ha e3
        have hfree : a.testBit (idx w Q[i]) = false := by
          cases hh : a.testBit (idx w Q[i]) with
          | false => rfl
          | true =>
            exfalso
            obtain ⟨p, hp1, hp2, hp3⟩ := hb _ hh
            obtain ⟨j, hj, rfl⟩ := List.mem_iff_getElem.mp hp1
            rw [List.length_take] at hj
            rw [List.getElem_take] at hp2 hp3
            have hne := (List.pairwise_iff_getElem.mp hnd) j i (by omega) hlt (by omega)
            have hpj := hq (Q[j]'(by omega)) (List.getElem_mem _)
            obtain ⟨⟨u1, _⟩, u2, _⟩ := hpj
            obtain ⟨⟨v1, _⟩, v2, _⟩ := hqi
            obtain ⟨i1, i2⟩ := idx_inj (w := w) (by omega) (by omega) hp2
            refine hne ?_
            cases hA : Q[j]'(by omega)
            cases hB : Q[i]
            simp only [hA, hB] at i1 i2 u1 u2 v1 v2
            simp only [S46.mk.injEq]
            omega
        have hadd := add_bit a _ hfree
        have := ih (i + 1) (a ||| 2 ^ idx w Q[i]) (by omega) (by omega) hor (by
          intro j hj
          rw [Nat.testBit_or, Bool.or_eq_true] at hj
          rw [List.take_add_one, List.getElem?_eq_getElem hlt, Option.toList_some]
          rcases hj with hj | hj
          · obtain ⟨p, p1, p2⟩ := hb j hj
            exact ⟨p, List.mem_append_left _ p1, p2⟩
          · rw [Nat.testBit_two_pow, decide_eq_true_eq] at hj
            exact ⟨Q[i], List.mem_append_right _ (List.mem_singleton.mpr rfl), hj, by omega⟩)
        refine Ev.step (fun k => ?_) (by rw [if_neg c0, if_neg c1]; exact this)
        simp only [spec_l08Put.l0, lt_t hlt, nn_t, if_true, rdP_get Q i hlt, c0, c1, if_false, e1, w1 (show i ≤ 140737488355328 by omega), shl_one (idx w Q[i]) (by omega)]
        rw [show (a : Int) + ((2 ^ idx w Q[i] : Nat) : Int) = ((a ||| 2 ^ idx w Q[i] : Nat) : Int) by rw [← hadd]; simp, w64n _ (by omega)]
theorem putI_lt (w h : Nat) (hN : w * h ≤ 36) (Q : List S46) (hq : ∀ q ∈ Q, nn q) : ∀ a, a < 2 ^ (w * h) → (putI w h Q a).1 < 2 ^ (w * h) := by
  induction Q with
  | nil => intro a ha; exact ha
  | cons q r ih =>
    intro a ha
    rw [putI]
    by_cases c0 : q.f0 ≥ (w : Int)
    · rw [if_pos c0]; exact Nat.pow_pos (by omega)
    · by_cases c1 : q.f1 ≥ (h : Int)
      · rw [if_neg c0, if_pos c1]; exact Nat.pow_pos (by omega)
      · rw [if_neg c0, if_neg c1]
        obtain ⟨e1, e2⟩ := idx_int w h hN _ (hq q (by simp)) c0 c1
        exact ih (fun p hp => hq p (by simp [hp])) _ (Nat.or_lt_two_pow ha (pow_lt hN e2).1)
theorem pts_facts (w N M : Nat) (hN : N ≤ 36) : (∀ q ∈ (cellsOf N M).map (ptOf w), small 100 q) ∧ ((cellsOf N M).map (ptOf w)).Pairwise (· ≠ ·) ∧ ((cellsOf N M).map (ptOf w)).length ≤ 36 := by
  refine ⟨?_, ?_, ?_⟩
  · intro q hq
    obtain ⟨c, hc, rfl⟩ := List.mem_map.mp hq
    have hc' := (List.mem_range'_1.mp (List.mem_filter.mp hc).1).2
    have h1 : c % w ≤ c := Nat.mod_le _ _
    have h2 : c / w ≤ c := Nat.div_le_self _ _
    unfold small ptOf
    generalize c % w = u at h1 ⊢
    generalize c / w = v at h2 ⊢
    exact ⟨⟨by simp only []; omega, by simp only []; omega⟩, by simp only []; omega, by simp only []; omega⟩
  · refine List.Pairwise.map _ (R := (· < ·)) ?_ ((List.pairwise_lt_range' (s := 0) (n := N) 1).filter _)
    intro a b hab he
    have h0 := congrArg S46.f0 he
    have h1 := congrArg S46.f1 he
    simp only [ptOf] at h0 h1
    have e1 := Nat.div_add_mod a w
    have e2 := Nat.div_add_mod b w
    have h0' : a % w = b % w := by omega
    have h1' : a / w = b / w := by omega
    rw [h0', h1'] at e1
    omega
  · rw [List.length_map]
    exact Nat.le_trans (List.length_filter_le _ _) (by simp; omega)
theorem pts_pos (w N M : Nat) (hM : M ≠ 0) (hl : M < 2 ^ N) : 0 < ((cellsOf N M).map (ptOf w)).length := by
  obtain ⟨i, hi⟩ := Nat.exists_testBit_of_ne_zero hM
  have hiN : i < N := by
    refine Decidable.byContradiction fun h => ?_
    rw [Nat.testBit_lt_two_pow (Nat.lt_of_lt_of_le hl (Nat.pow_le_pow_right (by omega) (by omega)))] at hi
    exact absurd hi (by simp)
  have : i ∈ cellsOf N M := List.mem_filter.mpr ⟨List.mem_range'_1.mpr ⟨by omega, by omega⟩, hi⟩
  rw [List.length_map]
  exact List.length_pos_of_mem this
theorem movedL_facts (m : Nat) (L : List S46) (h0 : 0 < L.length) (hs : ∀ q ∈ L, small 100 q) (hnd : L.Pairwise (· ≠ ·)) : (∀ q ∈ movedL m L, nn q) ∧ (movedL m L).Pairwise (· ≠ ·) ∧ (movedL m L).length = L.length := by
  have hs' : ∀ q ∈ L.map (mvP m), small 100 q := by
    intro q hq
    obtain ⟨p, hp, rfl⟩ := List.mem_map.mp hq
    exact mvP_small _ m p (hs p hp)
  obtain ⟨⟨l1, l2, l3, l4⟩, l5⟩ := lowOf_facts 100 (L.map (mvP m)) (by simpa using h0) hs'
  refine ⟨?_, ?_, by simp [movedL]⟩
  · intro q hq
    obtain ⟨p, hp, rfl⟩ := List.mem_map.mp hq
    have ⟨g1, g2⟩ := l5 p hp
    obtain ⟨⟨x1, x2⟩, x3, x4⟩ := hs' p hp
    unfold nn subP
    exact ⟨⟨by simp only []; omega, by simp only []; omega⟩, by simp only []; omega, by simp only []; omega⟩
  · unfold movedL
    refine List.Pairwise.map _ (R := (· ≠ ·)) ?_ (List.Pairwise.map _ (R := (· ≠ ·)) ?_ hnd)
    · intro a b hab he
      have e0 := congrArg S46.f0 he
      have e1 := congrArg S46.f1 he
      simp only [subP] at e0 e1
      refine hab ?_
      cases a
      cases b
      simp only [S46.mk.injEq]
      simp only [] at e0 e1
      omega
    · exact fun a b hab he => hab (mvP_inj m a b he)
def mvM (w h M m : Nat) : Nat × Bool := putI w h (movedL m ((cellsOf (w * h) M).map (ptOf w))) 0
theorem movedMask_f (w h M m : Nat) (hw : 1 ≤ w) (hw6 : w ≤ 6) (hh : h ≤ 6) (hM : M ≠ 0) (hl : M < 2 ^ (w * h)) (hm : m < 8) : Ev (fun k => impl_movedMask.f k (w : Int) (h : Int) (M : Int) (m : Int)) (((mvM w h M m).1 : Int), (mvM w h M m).2) := by
  have hN : w * h ≤ 36 := Nat.mul_le_mul hw6 hh
  have hp : (2 : Nat) ^ (w * h) ≤ 2 ^ 36 := Nat.pow_le_pow_right (by omega) hN
  obtain ⟨p1, p2, p3⟩ := pts_facts w (w * h) M hN
  have p4 := pts_pos w (w * h) M hM hl
  obtain ⟨q1, q2, q3⟩ := movedL_facts m _ p4 p1 p2
  have hM0 : ¬ ((M : Int) = 0) := by omega
  have e : ∀ k, impl_movedMask.f k (w : Int) (h : Int) (M : Int) (m : Int) = (impl_cells.f k (w : Int) (h : Int) (M : Int)).bind fun t => (impl_movedOn.f k t (m : Int)).bind fun t' => impl_movedMask.l0 k (w : Int) (h : Int) 0 t' (t'.length : Int) 0 := fun k => by
    unfold impl_movedMask.f
    rw [if_neg hM0]
  refine Ev.congr e ?_
  refine Ev.bind (cells_f w h M hw hw6 hh (by omega)) ?_
  refine Ev.bind (movedOn_f m hm _ p4 (by omega) (fun q hq => ⟨⟨by have := (p1 q hq).1; omega, by have := (p1 q hq).1; omega⟩, by have := (p1 q hq).2; omega, by have := (p1 q hq).2; omega⟩)) ?_
  exact put_impl w h hN _ (by omega) q1 _ 0 0 rfl (by omega) (Nat.pow_pos (by omega))
theorem mvM_lt (w h M m : Nat) (hw6 : w ≤ 6) (hh : h ≤ 6) (hM : M ≠ 0) (hl : M < 2 ^ (w * h)) : (mvM w h M m).1 < 2 ^ (w * h) := by
  have hN : w * h ≤ 36 := Nat.mul_le_mul hw6 hh
  obtain ⟨p1, p2, p3⟩ := pts_facts w (w * h) M hN
  have p4 := pts_pos w (w * h) M hM hl
  obtain ⟨q1, q2, q3⟩ := movedL_facts m _ p4 p1 p2
  exact putI_lt w h hN _ q1 0 (Nat.pow_pos (by omega))
theorem l08Put_f (w h m : Nat) (hN : w * h ≤ 36) (L : List S46) (h0 : 0 < L.length) (hl : L.length ≤ 1000) (hs : ∀ q ∈ L, small 100 q) (hnd : L.Pairwise (· ≠ ·)) : Ev (fun k => spec_l08Put.f k (w : Int) (h : Int) (L.map (mvP m))) (((putI w h (movedL m L) 0).1 : Int), (putI w h (movedL m L) 0).2) := by
  obtain ⟨q1, q2, q3⟩ := movedL_facts m _ h0 hs hnd
  have hs' : ∀ q ∈ L.map (mvP m), small 1000 q := by
    intro q hq
    obtain ⟨p, hp, rfl⟩ := List.mem_map.mp hq
    have := mvP_small _ m p (hs p hp)
    exact ⟨⟨by have := this.1; omega, by have := this.1; omega⟩, by have := this.2; omega, by have := this.2; omega⟩
  have e : ∀ k, spec_l08Put.f k (w : Int) (h : Int) (L.map (mvP m)) = (spec_l06Corner.f k (L.map (mvP m))).bind fun t => spec_l08Put.l0 k (w : Int) (h : Int) 0 t (t.length : Int) 0 := fun k => by
    unfold spec_l08Put.f
    rw [if_neg (by rw [List.length_map]; omega)]
  refine Ev.congr e ?_
  refine Ev.bind (corner_f (L.map (mvP m)) (by simpa using h0) (by simpa using hl) hs') ?_
  exact put_spec w h hN _ (by show (movedL m L).length ≤ 1000; omega) q1 q2 _ 0 0 rfl (by omega) (Nat.pow_pos (by omega)) (fun j hj => by simp at hj)
theorem asc_ext : ∀ (a b : List Int), a.Pairwise (· < ·) → b.Pairwise (· < ·) → (∀ z, z ∈ a ↔ z ∈ b) → a = b
  | [], [], _, _, _ => rfl
  | [], y :: b, _, _, h => absurd ((h y).mpr (by simp)) (by simp)
  | x :: a, [], _, _, h => absurd ((h x).mp (by simp)) (by simp)
  | x :: a, y :: b, ha, hb, h => by
    rw [List.pairwise_cons] at ha hb
    have e : x = y := by
      rcases List.mem_cons.mp ((h x).mp (by simp)) with e | e
      · exact e
      · rcases List.mem_cons.mp ((h y).mpr (by simp)) with e2 | e2
        · exact e2.symm
        · have h1 := hb.1 x e
          have h2 := ha.1 y e2
          omega
    subst e
    rw [asc_ext a b ha.2 hb.2 fun z => ?_]
    constructor
    · intro hz
      rcases List.mem_cons.mp ((h z).mp (List.mem_cons_of_mem _ hz)) with e | e
      · subst e; have := ha.1 z hz; omega
      · exact e
    · intro hz
      rcases List.mem_cons.mp ((h z).mpr (List.mem_cons_of_mem _ hz)) with e | e
      · subst e; have := hb.1 z hz; omega
      · exact e
theorem compactUpTo_facts (d : Array Int) (hs : ∀ i j, i ≤ j → j < d.size → d[i]! ≤ d[j]!) (m : Nat) : m ≤ d.size → (∀ z, z ∈ Go.Lib.compactUpTo d m ↔ ∃ j, j < m ∧ d[j]! = z) ∧ (Go.Lib.compactUpTo d m).Pairwise (· < ·) := by
  induction m with
  | zero => intro _; simp [Go.Lib.compactUpTo]
  | succ m ih =>
    intro hm
    obtain ⟨h1, h2⟩ := ih (by omega)
    rw [Go.Lib.compactUpTo_succ]
    by_cases hk : Go.Lib.keeps d m = true
    · rw [if_pos hk]
      have hlt : ∀ z ∈ Go.Lib.compactUpTo d m, z < d[m]! := by
        intro z hz
        obtain ⟨j, hj, rfl⟩ := (h1 z).mp hz
        have hk' := hk
        simp only [Go.Lib.keeps, decide_eq_true_eq] at hk'
        have e1 := hs j (m - 1) (by omega) (by omega)
        have e2 := hs (m - 1) m (by omega) (by omega)
        rcases hk' with e | e
        · omega
        · have : d[m - 1]! ≠ d[m]! := fun e3 => e e3.symm
          omega
      constructor
      · intro z
        rw [List.mem_append, h1, List.mem_singleton]
        constructor
        · rintro (⟨j, hj, rfl⟩ | rfl)
          · exact ⟨j, by omega, rfl⟩
          · exact ⟨m, by omega, rfl⟩
        · rintro ⟨j, hj, rfl⟩
          by_cases e : j = m
          · subst e; exact .inr rfl
          · exact .inl ⟨j, by omega, rfl⟩
      · rw [List.pairwise_append]
        refine ⟨h2, by simp, fun a ha b hb => ?_⟩
        rw [List.mem_singleton] at hb
        subst hb
        exact hlt a ha
    · rw [if_neg hk, List.append_nil]
      refine ⟨fun z => ?_, h2⟩
      rw [h1]
      constructor
      · rintro ⟨j, hj, rfl⟩
        exact ⟨j, by omega, rfl⟩
      · rintro ⟨j, hj, rfl⟩
        by_cases e : j = m
        · subst e
          have hk' : ¬ (j = 0 ∨ d[j]! ≠ d[j - 1]!) := by simpa [Go.Lib.keeps] using hk
          have e1 : d[j]! = d[j - 1]! := Decidable.byContradiction fun e => hk' (.inr e)
          have e2 : j ≠ 0 := fun e => hk' (.inl e)
          exact ⟨j - 1, by omega, e1.symm⟩
        · exact ⟨j, by omega, rfl⟩
theorem sorted_compact (l : List Int) : (∀ z, z ∈ Go.Lib.compact (l.mergeSort fun x y => decide (x ≤ y)) ↔ z ∈ l) ∧ (Go.Lib.compact (l.mergeSort fun x y => decide (x ≤ y))).Pairwise (· < ·) := by
  have hp : (l.mergeSort fun x y => decide (x ≤ y)).Pairwise fun a b => decide (a ≤ b) = true := List.pairwise_mergeSort (fun a b c h1 h2 => by simp only [decide_eq_true_eq] at *; omega) (fun a b => by simp only [Bool.or_eq_true, decide_eq_true_eq]; omega) l
  have hm : ∀ z, z ∈ (l.mergeSort fun x y => decide (x ≤ y)) ↔ z ∈ l := fun z => List.mem_mergeSort
  generalize (l.mergeSort fun x y => decide (x ≤ y)) = s at hp hm ⊢
  have hs : ∀ i j, i ≤ j → j < s.toArray.size → s.toArray[i]! ≤ s.toArray[j]! := by
    intro i j hij hj
    have hj' : j < s.length := by simpa using hj
    rw [getElem!_pos s.toArray i (by simp; omega), getElem!_pos s.toArray j hj]
    by_cases e : i = j
    · subst e; exact Int.le_refl _
    · have := (List.pairwise_iff_getElem.mp hp) i j (by omega) hj' (by omega)
      simpa using this
  obtain ⟨h1, h2⟩ := compactUpTo_facts s.toArray hs s.length (by simp)
  refine ⟨fun z => ?_, h2⟩
  show z ∈ Go.Lib.compactUpTo s.toArray s.length ↔ _
  rw [h1, ← hm]
  constructor
  · rintro ⟨j, hj, rfl⟩
    rw [getElem!_pos s.toArray j (by simpa using hj)]
    simp
  · intro hz
    obtain ⟨j, hj, e⟩ := List.mem_iff_getElem.mp hz
    refine ⟨j, hj, ?_⟩
    rw [getElem!_pos s.toArray j (by simpa using hj)]
    simpa using e
def nxt (o : Option Nat) : List Int := match o with | some b => if b = 0 then [] else [(b : Int)] | none => []
theorem nxt_len (o : Option Nat) : (nxt o).length ≤ 1 := by
  unfold nxt
  split
  · split <;> simp
  · simp
def tryS (w h F x y : Nat) : List Nat → Nat → Option Nat
  | [], a => some a
  | c :: r, a => if c % w + x ≥ w then none else if c / w + y ≥ h then none else if F.testBit ((c / w + y) * w + c % w + x) = true then tryS w h F x y r (a ||| 2 ^ ((c / w + y) * w + c % w + x)) else none
def rowS (w h F : Nat) (cs : List Nat) (y x d : Nat) : List Int := (List.range' x d).flatMap fun x => nxt (tryS w h F x y cs 0)
def allS (w h F : Nat) (cs : List Nat) (y d : Nat) : List Int := (List.range' y d).flatMap fun y => rowS w h F cs y 0 w
theorem rowS_len (w h F : Nat) (cs : List Nat) (y d : Nat) : ∀ x, (rowS w h F cs y x d).length ≤ d := by
  induction d with
  | zero => intro x; simp [rowS]
  | succ d ih =>
    intro x
    unfold rowS
    rw [List.range'_succ, List.flatMap_cons, List.length_append]
    have := nxt_len (tryS w h F x y cs 0)
    have h2 := ih (x + 1)
    unfold rowS at h2
    omega
theorem allS_len (w h F : Nat) (hw : w ≤ 6) (cs : List Nat) (d : Nat) : ∀ y, (allS w h F cs y d).length ≤ 6 * d := by
  induction d with
  | zero => intro y; simp [allS]
  | succ d ih =>
    intro y
    unfold allS
    rw [List.range'_succ, List.flatMap_cons, List.length_append]
    have := rowS_len w h F cs y w 0
    have h2 := ih (y + 1)
    unfold allS at h2
    omega
theorem rowS_succ (w h F : Nat) (cs : List Nat) (y x d : Nat) : rowS w h F cs y x (d + 1) = nxt (tryS w h F x y cs 0) ++ rowS w h F cs y (x + 1) d := by
  unfold rowS
  rw [List.range'_succ, List.flatMap_cons]
theorem allS_succ (w h F : Nat) (cs : List Nat) (y d : Nat) : allS w h F cs y (d + 1) = rowS w h F cs y 0 w ++ allS w h F cs (y + 1) d := by
  unfold allS
  rw [List.range'_succ, List.flatMap_cons]
def lt2 (a N : Nat) : Prop := a < 2 ^ N
theorem lt2_zero (N : Nat) : lt2 0 N := Nat.pow_pos (by omega)
theorem lt2_or {a e N : Nat} (hN : N ≤ 36) (ha : lt2 a N) (he : e < N) : lt2 (a ||| 2 ^ e) N ∧ shl .i64 1 (e : Int) = ((2 ^ e : Nat) : Int) ∧ Go.bits .or .i64 (a : Int) ((2 ^ e : Nat) : Int) = ((a ||| 2 ^ e : Nat) : Int) := by
  have h1 : 2 ^ e < 2 ^ N := Nat.pow_lt_pow_right (by omega) he
  have h2 : (2 : Nat) ^ N ≤ 2 ^ 36 := Nat.pow_le_pow_right (by omega) hN
  unfold lt2 at ha ⊢
  exact ⟨Nat.or_lt_two_pow ha h1, shl_one e (by omega), i64_or a (2 ^ e) (by omega) (by omega)⟩
theorem lt2_lt {a N : Nat} (hN : N ≤ 36) (ha : lt2 a N) : a < 9223372036854775808 := by
  have h2 : (2 : Nat) ^ N ≤ 2 ^ 36 := Nat.pow_le_pow_right (by omega) hN
  unfold lt2 at ha
  omega
set_option linter.unusedSectionVars false
section
variable {w h F : Nat} (hw : 1 ≤ w) (hw6 : w ≤ 6) (hh : h ≤ 6) (hF : F < 9223372036854775808) {cs : List Nat} (hcs : ∀ c ∈ cs, c < w * h) (hcl : cs.length ≤ 36)
include hw hw6 hh hF hcs hcl
theorem cell_at {i x y : Nat} (hi : i < cs.length) (hx : x < w) (hy : y < h) : (rd_T46 (cs.map (ptOf w)) (i : Int)).f0 = ((cs[i] % w : Nat) : Int) ∧ (rd_T46 (cs.map (ptOf w)) (i : Int)).f1 = ((cs[i] / w : Nat) : Int) ∧ wrap64 (((cs[i] % w : Nat) : Int) + (x : Int)) = ((cs[i] % w + x : Nat) : Int) ∧ wrap64 (((cs[i] / w : Nat) : Int) + (y : Int)) = ((cs[i] / w + y : Nat) : Int) ∧ (¬ cs[i] / w + y ≥ h → ¬ cs[i] % w + x ≥ w → wrap64 (wrap64 (wrap64 (((cs[i] / w + y : Nat) : Int) * (w : Int)) + ((cs[i] % w : Nat) : Int)) + (x : Int)) = (((cs[i] / w + y) * w + cs[i] % w + x : Nat) : Int) ∧ (cs[i] / w + y) * w + cs[i] % w + x < w * h) := by
  have hc := hcs cs[i] (List.getElem_mem hi)
  have hN : w * h ≤ 36 := Nat.mul_le_mul hw6 hh
  have e : rd_T46 (cs.map (ptOf w)) (i : Int) = ptOf w cs[i] := by rw [rdP_get _ i (by rw [List.length_map]; exact hi), List.getElem_map]
  have h1 : cs[i] % w < w := Nat.mod_lt _ (by omega)
  have h2 : cs[i] / w ≤ cs[i] := Nat.div_le_self _ _
  rw [e]
  refine ⟨rfl, rfl, ?_, ?_, fun g1 g2 => ?_⟩
  · generalize cs[i] % w = u at *
    rw [show (u : Int) + (x : Int) = ((u + x : Nat) : Int) by simp, w64n _ (by omega)]
  · generalize cs[i] / w = v at *
    rw [show (v : Int) + (y : Int) = ((v + y : Nat) : Int) by simp, w64n _ (by omega)]
  · generalize cs[i] % w = u at *
    generalize cs[i] / w = v at *
    have hl : (v + y) * w + (u + x) < w * h := idx_lt (by omega) (by omega)
    have e1 : ((v + y : Nat) : Int) * (w : Int) = (((v + y) * w : Nat) : Int) := by rw [Int.natCast_mul]
    rw [e1]
    generalize (v + y) * w = z at *
    rw [w64n z (by omega), show (z : Int) + (u : Int) = ((z + u : Nat) : Int) by simp, w64n _ (by omega), show ((z + u : Nat) : Int) + (x : Int) = ((z + u + x : Nat) : Int) by simp, w64n _ (by omega)]
    exact ⟨rfl, by omega⟩
theorem imp3 (M m x y : Nat) (hx : x < w) (hy : y < h) (turn : Bool) (out R : List Int) (ho : out.length ≤ 1000000) (d : Nat) : ∀ (i a : Nat), cs.length - i = d → i ≤ cs.length → lt2 a (w * h) →
    Ev (fun k => impl_layings.l2 k (w : Int) (h : Int) (F : Int) (M : Int) turn (out ++ nxt (tryS w h F x y (cs.drop i) a)) (cs.map (ptOf w)) (y : Int) (m : Int) (h : Int) (y : Int) (w : Int) ((x + 1 : Nat) : Int)) R →
    Ev (fun k => impl_layings.l3 k (w : Int) (h : Int) (F : Int) (M : Int) turn out (cs.map (ptOf w)) (y : Int) (x : Int) (a : Int) (m : Int) (h : Int) (y : Int) (w : Int) (x : Int) (cs.length : Int) (i : Int)) R := by
  have hN : w * h ≤ 36 := Nat.mul_le_mul hw6 hh
  have hol : (out.length < 17592186044416) = True := eq_true (by omega)
  have hx64 := w1 (show x ≤ 140737488355328 by omega)
  induction d with
  | zero =>
    intro i a hd hi ha H
    rw [List.drop_of_length_le (by omega)] at H
    refine Ev.step (fun k => ?_) H
    simp only [impl_layings.l3, lt_f (show cs.length ≤ i by omega), if_false, hx64, tryS, nxt]
    by_cases h0 : a = 0
    · subst h0
      simp
    · rw [if_neg (by omega), if_neg h0]
      simp only [hol, if_true]
  | succ d ih =>
    intro i a hd hi ha H
    have hlt : i < cs.length := by omega
    have hi1 : cs.length - (i + 1) = d := by omega
    have hi2 : i + 1 ≤ cs.length := by omega
    have hi3 := w1 (show i ≤ 140737488355328 by omega)
    have hlt2 : ((i : Int) < (((cs.map (ptOf w)).length : Nat) : Int)) = True := by rw [List.length_map]; exact lt_t hlt
    rw [List.drop_eq_getElem_cons hlt, tryS] at H
    obtain ⟨e1, e2, e3, e4, e5⟩ := cell_at hw hw6 hh hF hcs hcl hlt hx hy
    by_cases c0 : cs[i] % w + x ≥ w
    · rw [if_pos c0] at H
      simp only [nxt, List.append_nil] at H
      refine Ev.step (fun k => ?_) H
      have g0 : (((cs[i] % w + x : Nat) : Int) ≥ (w : Int)) = True := eq_true (Int.ofNat_le.mpr c0)
      simp only [impl_layings.l3, lt_t hlt, nn_t, hlt2, if_true, e1, e3, g0, hx64]
    · have g0 : (((cs[i] % w + x : Nat) : Int) ≥ (w : Int)) = False := eq_false (fun h => c0 (Int.ofNat_le.mp h))
      rw [if_neg c0] at H
      by_cases c1 : cs[i] / w + y ≥ h
      · rw [if_pos c1] at H
        simp only [nxt, List.append_nil] at H
        refine Ev.step (fun k => ?_) H
        have g1 : (((cs[i] / w + y : Nat) : Int) ≥ (h : Int)) = True := eq_true (Int.ofNat_le.mpr c1)
        simp only [impl_layings.l3, lt_t hlt, nn_t, hlt2, if_true, e1, e2, e3, e4, g0, g1, if_false, hx64]
      · have g1 : (((cs[i] / w + y : Nat) : Int) ≥ (h : Int)) = False := eq_false (fun h => c1 (Int.ofNat_le.mp h))
        rw [if_neg c1] at H
        obtain ⟨e6, e7⟩ := e5 c1 c0
        have hi4 : (cs[i] / w + y) * w + cs[i] % w + x ≤ 64 := Nat.le_trans (Nat.le_of_lt e7) (Nat.le_trans hN (by decide))
        by_cases c2 : F.testBit ((cs[i] / w + y) * w + cs[i] % w + x) = true
        · rw [if_pos c2] at H
          obtain ⟨hor, hsh, hbo⟩ := lt2_or hN ha e7
          refine Ev.step (fun k => ?_) (ih (i + 1) (a ||| 2 ^ ((cs[i] / w + y) * w + cs[i] % w + x)) hi1 hi2 hor H)
          simp only [impl_layings.l3, lt_t hlt, nn_t, hlt2, if_true, e1, e2, e3, e4, e6, g0, g1, if_false, has_f F _ hF hi4, Option.bind_some, c2, hi3]
          rw [hsh, hbo]
        · rw [if_neg c2] at H
          simp only [nxt, List.append_nil] at H
          refine Ev.step (fun k => ?_) H
          simp only [impl_layings.l3, lt_t hlt, nn_t, hlt2, if_true, e1, e2, e3, e4, e6, g0, g1, if_false, has_f F _ hF hi4, Option.bind_some, c2, hx64, Bool.false_eq_true]
theorem imp2 (M m y : Nat) (hy : y < h) (turn : Bool) (R : List Int) (d : Nat) : ∀ (x : Nat) (out : List Int), w - x = d → x ≤ w → out.length + d ≤ 1000000 →
    Ev (fun k => impl_layings.l1 k (w : Int) (h : Int) (F : Int) (M : Int) turn (out ++ rowS w h F cs y x d) (cs.map (ptOf w)) (m : Int) (h : Int) ((y + 1 : Nat) : Int)) R →
    Ev (fun k => impl_layings.l2 k (w : Int) (h : Int) (F : Int) (M : Int) turn out (cs.map (ptOf w)) (y : Int) (m : Int) (h : Int) (y : Int) (w : Int) (x : Int)) R := by
  induction d with
  | zero =>
    intro x out hd hx ho H
    simp only [rowS, List.range'_zero, List.flatMap_nil, List.append_nil] at H
    refine Ev.step (fun k => ?_) H
    simp only [impl_layings.l2, lt_f (show w ≤ x by omega), if_false, w1 (show y ≤ 140737488355328 by omega)]
  | succ d ih =>
    intro x out hd hx ho H
    have hlt : x < w := by omega
    rw [rowS_succ, ← List.append_assoc] at H
    have hn := nxt_len (tryS w h F x y cs 0)
    refine Ev.step (fun k => ?_) (imp3 hw hw6 hh hF hcs hcl M m x y hlt hy turn out R (by omega) cs.length 0 0 rfl (by omega) (lt2_zero _) (ih (x + 1) (out ++ nxt (tryS w h F x y cs 0)) (by omega) (by omega) (by rw [List.length_append]; omega) H))
    simp only [impl_layings.l2, lt_t hlt, if_true, List.length_map]
    rfl
theorem imp1 (M m : Nat) (hm : m < 8) (turn : Bool) (R : List Int) (d : Nat) : ∀ (y : Nat) (out : List Int), h - y = d → y ≤ h → out.length + 6 * d ≤ 1000000 →
    Ev (fun k => impl_layings.l0 k (w : Int) (h : Int) (F : Int) (M : Int) turn (out ++ allS w h F cs y d) ((m + 1 : Nat) : Int)) R →
    Ev (fun k => impl_layings.l1 k (w : Int) (h : Int) (F : Int) (M : Int) turn out (cs.map (ptOf w)) (m : Int) (h : Int) (y : Int)) R := by
  induction d with
  | zero =>
    intro y out hd hy ho H
    simp only [allS, List.range'_zero, List.flatMap_nil, List.append_nil] at H
    refine Ev.step (fun k => ?_) H
    simp only [impl_layings.l1, lt_f (show h ≤ y by omega), if_false, w1 (show m ≤ 140737488355328 by omega)]
  | succ d ih =>
    intro y out hd hy ho H
    have hlt : y < h := by omega
    rw [allS_succ, ← List.append_assoc] at H
    have hn := rowS_len w h F cs y w 0
    refine Ev.step (fun k => ?_) (imp2 hw hw6 hh hF hcs hcl M m y hlt turn R w 0 out (by omega) (by omega) (by omega) (ih (y + 1) (out ++ rowS w h F cs y 0 w) (by omega) (by omega) (by rw [List.length_append]; omega) H))
    simp only [impl_layings.l1, lt_t hlt, if_true]
    rfl
end
theorem cellsOf_facts (N C : Nat) (hN : N ≤ 36) : (∀ c ∈ cellsOf N C, c < N) ∧ (cellsOf N C).length ≤ 36 ∧ (cellsOf N C).Pairwise (· < ·) := by
  refine ⟨fun c hc => ?_, ?_, (List.pairwise_lt_range' (s := 0) (n := N) 1).filter _⟩
  · have := (List.mem_range'_1.mp (List.mem_filter.mp hc).1).2
    omega
  · exact Nat.le_trans (List.length_filter_le _ _) (by simp; omega)
theorem place (w c x y : Nat) : (c / w + y) * w + c % w + x = c + (y * w + x) := by
  have h := Nat.div_add_mod c w
  have e : c / w * w = w * (c / w) := Nat.mul_comm _ _
  rw [Nat.add_mul, e]
  omega
theorem lt2_or' {a e N : Nat} (ha : lt2 a N) (he : e < N) : lt2 (a ||| 2 ^ e) N := Nat.or_lt_two_pow ha (Nat.pow_lt_pow_right (by omega) he)
section
variable {w h F : Nat} (hw : 1 ≤ w) (hw6 : w ≤ 6) (hh : h ≤ 6) (hF : F < 9223372036854775808) {cs : List Nat} (hcs : ∀ c ∈ cs, c < w * h) (hcl : cs.length ≤ 36) (hso : cs.Pairwise (· < ·))
include hw hw6 hh hF hcs hcl hso
end
def shL (w h F C : Nat) : List Int := allS w h F (cellsOf (w * h) C) 0 h
theorem shL_len (w h F C : Nat) (hw6 : w ≤ 6) (hh : h ≤ 6) : (shL w h F C).length ≤ 36 := by
  have := allS_len w h F hw6 (cellsOf (w * h) C) h 0
  unfold shL
  omega
def layL (w h F M m : Nat) : List Int := if (mvM w h M m).2 = true then shL w h F (mvM w h M m).1 else []
theorem layL_len (w h F M m : Nat) (hw6 : w ≤ 6) (hh : h ≤ 6) : (layL w h F M m).length ≤ 36 := by
  unfold layL
  split
  · exact shL_len w h F _ hw6 hh
  · simp
def impOut (w h F M : Nat) (turn : Bool) (m d : Nat) : List Int := (List.range' m d).flatMap fun m => if m = 0 ∨ turn = true then layL w h F M m else []
theorem impOut_len (w h F M : Nat) (hw6 : w ≤ 6) (hh : h ≤ 6) (turn : Bool) (d : Nat) : ∀ m, (impOut w h F M turn m d).length ≤ 36 * d := by
  induction d with
  | zero => intro m; simp [impOut]
  | succ d ih =>
    intro m
    unfold impOut
    rw [List.range'_succ, List.flatMap_cons, List.length_append]
    have h2 := ih (m + 1)
    unfold impOut at h2
    have h1 := layL_len w h F M m hw6 hh
    have h3 : (if m = 0 ∨ turn = true then layL w h F M m else []).length ≤ 36 := by
      split
      · exact h1
      · simp
    omega
theorem impOut_succ (w h F M : Nat) (turn : Bool) (m d : Nat) : impOut w h F M turn m (d + 1) = (if m = 0 ∨ turn = true then layL w h F M m else []) ++ impOut w h F M turn (m + 1) d := by
  unfold impOut
  rw [List.range'_succ, List.flatMap_cons]
def laysOf (w h F M : Nat) (turn : Bool) : List Int := Go.Lib.compact ((impOut w h F M turn 0 8).mergeSort fun x y => decide (x ≤ y))
section
variable {w h F M : Nat} (hw : 1 ≤ w) (hw6 : w ≤ 6) (hh : h ≤ 6) (hF : F < 9223372036854775808) (hM : M ≠ 0) (hMl : lt2 M (w * h))
include hw hw6 hh hF hM hMl
theorem mvM_lt2 (m : Nat) : lt2 (mvM w h M m).1 (w * h) := mvM_lt w h M m hw6 hh hM hMl
theorem imp0 (turn : Bool) (d : Nat) : ∀ (m : Nat) (out : List Int), 8 - m = d → m ≤ 8 → out.length + 36 * d ≤ 1000000 →
    Ev (fun k => impl_layings.l0 k (w : Int) (h : Int) (F : Int) (M : Int) turn out (m : Int)) (Go.Lib.compact ((out ++ impOut w h F M turn m d).mergeSort fun x y => decide (x ≤ y))) := by
  have hN : w * h ≤ 36 := Nat.mul_le_mul hw6 hh
  induction d with
  | zero =>
    intro m out hd hm ho
    have e : m = 8 := by omega
    subst e
    simp only [impOut, List.range'_zero, List.flatMap_nil, List.append_nil]
    refine Ev.step (f := fun _ => some (Go.Lib.compact (out.mergeSort fun x y => decide (x ≤ y)))) (fun k => ?_) (Ev.now _)
    have h8 : (((8 : Nat) : Int) < 8) = False := eq_false (by omega)
    have hol : (out.length < 4611686018427387904) = True := eq_true (by omega)
    simp only [impl_layings.l0, h8, if_false, slices_Sort_int_int.f, slices_Compact_int_int.f, hol, if_true, Option.bind_some]
  | succ d ih =>
    intro m out hd hm ho
    have hlt : m < 8 := by omega
    have hl8 : ((m : Int) < 8) = True := eq_true (by omega)
    have hm1 := w1 (show m ≤ 140737488355328 by omega)
    have hi1 : 8 - (m + 1) = d := by omega
    have hi2 : m + 1 ≤ 8 := by omega
    have hol1 : out.length + 36 * d ≤ 1000000 := by omega
    have hlL := layL_len w h F M m hw6 hh
    rw [impOut_succ, ← List.append_assoc]
    have skip : ∀ c : Int, Ev (fun k => impl_layings.l0 k (w : Int) (h : Int) (F : Int) (M : Int) turn out ((m + 1 : Nat) : Int)) (Go.Lib.compact ((out ++ impOut w h F M turn (m + 1) d).mergeSort fun x y => decide (x ≤ y))) → Ev (fun k => impl_layings.j1 k (w : Int) (h : Int) (F : Int) (M : Int) turn out c (m : Int) true) (Go.Lib.compact ((out ++ impOut w h F M turn (m + 1) d).mergeSort fun x y => decide (x ≤ y))) := by
      intro c H
      refine Ev.step (fun k => ?_) H
      simp only [impl_layings.j1, if_true, hm1]
    have run : (mvM w h M m).2 = true → Ev (fun k => impl_layings.j1 k (w : Int) (h : Int) (F : Int) (M : Int) turn out (((mvM w h M m).1 : Nat) : Int) (m : Int) false) (Go.Lib.compact ((out ++ layL w h F M m ++ impOut w h F M turn (m + 1) d).mergeSort fun x y => decide (x ≤ y))) := by
      intro hb
      have hol2 : (out ++ layL w h F M m).length + 36 * d ≤ 1000000 := by rw [List.length_append]; omega
      have H := ih (m + 1) (out ++ layL w h F M m) hi1 hi2 hol2
      have hC := mvM_lt2 hw hw6 hh hF hM hMl m
      have el : layL w h F M m = shL w h F (mvM w h M m).1 := by unfold layL; rw [if_pos hb]
      rw [el] at H ⊢
      generalize (mvM w h M m).1 = C at H hC ⊢
      obtain ⟨c1, c2, c3⟩ := cellsOf_facts (w * h) C hN
      have hol3 : out.length + 6 * h ≤ 1000000 := by omega
      have := imp1 hw hw6 hh hF c1 c2 M m hlt turn _ h 0 out (Nat.sub_zero _) (Nat.zero_le _) hol3 H
      have hC' := lt2_lt hN hC
      refine Ev.step (f := fun k => (impl_cells.f k (w : Int) (h : Int) (C : Int)).bind fun t => impl_layings.l1 k (w : Int) (h : Int) (F : Int) (M : Int) turn out t (m : Int) (h : Int) 0) (fun k => ?_) (Ev.bind (cells_f w h C hw hw6 hh hC') this)
      simp only [impl_layings.j1, Bool.false_eq_true, if_false]
    refine Ev.step (f := fun k => (impl_movedMask.f k (w : Int) (h : Int) (M : Int) (m : Int)).bind fun bt => (if bt.2 = true then (if (m : Int) > 0 then (impl_layings.j1 k (w : Int) (h : Int) (F : Int) (M : Int) turn out bt.1 (m : Int) (!turn)) else (impl_layings.j1 k (w : Int) (h : Int) (F : Int) (M : Int) turn out bt.1 (m : Int) false)) else (impl_layings.j1 k (w : Int) (h : Int) (F : Int) (M : Int) turn out bt.1 (m : Int) true))) (fun k => ?_) (Ev.bind (movedMask_f w h M m hw hw6 hh hM hMl hlt) ?_)
    · simp only [impl_layings.l0, hl8, if_true]
    · by_cases hb : (mvM w h M m).2 = true
      · simp only [hb, if_true]
        by_cases h0 : m = 0
        · have hg : ((m : Int) > 0) = False := eq_false (by omega)
          simp only [hg, if_false]
          rw [if_pos (Or.inl h0)]
          exact run hb
        · have hg : ((m : Int) > 0) = True := eq_true (by omega)
          simp only [hg, if_true]
          cases turn with
          | true =>
            rw [if_pos (Or.inr rfl)]
            exact run hb
          | false =>
            rw [if_neg (by simp [h0]), List.append_nil]
            exact skip _ (ih (m + 1) out hi1 hi2 hol1)
      · have hb' : (mvM w h M m).2 = false := by simpa using hb
        have el : layL w h F M m = [] := by unfold layL; rw [if_neg hb]
        simp only [hb', Bool.false_eq_true, if_false]
        rw [el, ite_self, List.append_nil]
        exact skip _ (ih (m + 1) out hi1 hi2 hol1)
theorem layings_f (turn : Bool) : Ev (fun k => impl_layings.f k (w : Int) (h : Int) (F : Int) (M : Int) turn) (laysOf w h F M turn) := by
  have := imp0 hw hw6 hh hF hM hMl turn 8 0 [] (by omega) (by omega) (by simp)
  rw [List.nil_append] at this
  unfold laysOf
  refine Ev.congr (fun k => ?_) this
  unfold impl_layings.f
  rfl
end
theorem laysOf_facts (w h F M : Nat) (hw6 : w ≤ 6) (hh : h ≤ 6) (turn : Bool) : (laysOf w h F M turn).length ≤ 288 := by
  have h1 := impOut_len w h F M hw6 hh turn 8 0
  have h2 := slices_Compact_int_int.short ((impOut w h F M turn 0 8).mergeSort fun x y => decide (x ≤ y))
  rw [List.length_mergeSort] at h2
  unfold laysOf
  omega
theorem add_or (x y : Nat) (hx : x < 9223372036854775808) (hy : y < 9223372036854775808) (h : ∀ j, ¬ (x.testBit j = true ∧ y.testBit j = true)) : x + y = x ||| y := by
  have h0 : BitVec.ofNat 64 x &&& BitVec.ofNat 64 y = 0#64 := by
    apply BitVec.eq_of_toNat_eq
    rw [BitVec.toNat_and, BitVec.toNat_ofNat, BitVec.toNat_ofNat, Nat.mod_eq_of_lt (by omega), Nat.mod_eq_of_lt (by omega)]
    refine Nat.eq_of_testBit_eq fun j => ?_
    rw [Nat.testBit_and]
    have := h j
    cases hx : x.testBit j <;> cases hy : y.testBit j <;> simp_all
  have h1 := congrArg BitVec.toNat (BitVec.add_eq_or_of_and_eq_zero _ _ h0)
  rw [BitVec.toNat_add, BitVec.toNat_or, BitVec.toNat_ofNat, BitVec.toNat_ofNat, Nat.mod_eq_of_lt (a := x) (by omega), Nat.mod_eq_of_lt (a := y) (by omega), Nat.mod_eq_of_lt (by omega)] at h1
  exact h1
def sub (b F : Nat) : Prop := ∀ j, b.testBit j = true → F.testBit j = true
theorem sub_off (b F : Nat) (hF : F < 9223372036854775808) (hb : sub b F) : andn F b + b = F ∧ b ≤ F := by
  have hbF : b ≤ F := by
    have : b &&& F = b := Nat.eq_of_testBit_eq fun j => by
      rw [Nat.testBit_and]
      have := hb j
      cases h1 : b.testBit j <;> cases h2 : F.testBit j <;> simp_all
    rw [← this]
    exact Nat.and_le_right
  have hle : andn F b ≤ F := Nat.and_le_left
  refine ⟨?_, hbF⟩
  rw [add_or _ _ (by omega) (by omega) fun j => ?_]
  · refine Nat.eq_of_testBit_eq fun j => ?_
    rw [Nat.testBit_or, testBit_andn _ _ _ (by omega) (by omega)]
    have := hb j
    cases h1 : b.testBit j <;> cases h2 : F.testBit j <;> simp_all
  · rw [testBit_andn _ _ _ (by omega) (by omega)]
    cases h1 : b.testBit j <;> cases h2 : F.testBit j <;> simp_all
theorem off_lt2 {F b N : Nat} (h : lt2 F N) : lt2 (andn F b) N := Nat.lt_of_le_of_lt Nat.and_le_left h
theorem off_both (b F : Nat) (hF : F < 9223372036854775808) (hb : sub b F) : Go.bits .andNot .i64 (F : Int) (b : Int) = ((andn F b : Nat) : Int) ∧ wrap64 ((F : Int) - (b : Int)) = ((andn F b : Nat) : Int) := by
  obtain ⟨h1, h2⟩ := sub_off b F hF hb
  refine ⟨i64_andNot F b (by omega) (by omega), ?_⟩
  rw [w64 (by omega) (by omega)]
  omega
theorem tryS_sub (w h F x y : Nat) (cs : List Nat) (b : Nat) : ∀ a, tryS w h F x y cs a = some b → ∀ j, b.testBit j = true → a.testBit j = true ∨ F.testBit j = true := by
  induction cs with
  | nil => intro a e j hj; rw [tryS, Option.some.injEq] at e; subst e; exact .inl hj
  | cons c r ih =>
    intro a e j hj
    rw [tryS] at e
    by_cases c0 : c % w + x ≥ w
    · rw [if_pos c0] at e; exact absurd e (by simp)
    · by_cases c1 : c / w + y ≥ h
      · rw [if_neg c0, if_pos c1] at e; exact absurd e (by simp)
      · by_cases c2 : F.testBit ((c / w + y) * w + c % w + x) = true
        · rw [if_neg c0, if_neg c1, if_pos c2] at e
          rcases ih _ e j hj with h1 | h1
          · rw [Nat.testBit_or, Bool.or_eq_true, Nat.testBit_two_pow, decide_eq_true_eq] at h1
            rcases h1 with h1 | h1
            · exact .inl h1
            · rw [h1] at c2; exact .inr c2
          · exact .inr h1
        · rw [if_neg c0, if_neg c1, if_neg c2] at e; exact absurd e (by simp)
theorem nxt_mem (o : Option Nat) (z : Int) (h : z ∈ nxt o) : ∃ b : Nat, o = some b ∧ b ≠ 0 ∧ z = (b : Int) := by
  unfold nxt at h
  split at h
  · split at h
    · simp at h
    · rename_i b hb
      exact ⟨b, rfl, hb, by simpa using h⟩
  · simp at h
theorem shL_mem (w h F C : Nat) (z : Int) (hz : z ∈ shL w h F C) : ∃ b : Nat, b ≠ 0 ∧ z = (b : Int) ∧ sub b F := by
  unfold shL allS rowS at hz
  obtain ⟨y, _, hz⟩ := List.mem_flatMap.mp hz
  obtain ⟨x, _, hz⟩ := List.mem_flatMap.mp hz
  obtain ⟨b, e, h0, hz⟩ := nxt_mem _ z hz
  refine ⟨b, h0, hz, fun j hj => ?_⟩
  rcases tryS_sub _ _ _ _ _ _ b 0 e j hj with h1 | h1
  · simp at h1
  · exact h1
theorem laysOf_mem (w h F M : Nat) (turn : Bool) (z : Int) (hz : z ∈ laysOf w h F M turn) : ∃ b : Nat, b ≠ 0 ∧ z = (b : Int) ∧ sub b F := by
  have h1 := ((sorted_compact (impOut w h F M turn 0 8)).1 z).mp hz
  unfold impOut at h1
  obtain ⟨m, _, h1⟩ := List.mem_flatMap.mp h1
  split at h1
  · unfold layL at h1
    split at h1
    · exact shL_mem w h F _ z h1
    · simp at h1
  · simp at h1
theorem full_free (w h : Nat) (hw6 : w ≤ 6) (hh : h ≤ 6) : wrap64 ((w : Int) * (h : Int)) = ((w * h : Nat) : Int) ∧ wrap64 (shl .i64 1 ((w * h : Nat) : Int) - 1) = ((2 ^ (w * h) - 1 : Nat) : Int) ∧ lt2 (2 ^ (w * h) - 1) (w * h) := by
  have hN : w * h ≤ 36 := Nat.mul_le_mul hw6 hh
  have hp : (2 : Nat) ^ (w * h) ≤ 2 ^ 36 := Nat.pow_le_pow_right (by omega) hN
  have hp1 : 1 ≤ (2 : Nat) ^ (w * h) := Nat.one_le_two_pow
  refine ⟨?_, ?_, ?_⟩
  · rw [← Int.natCast_mul]; exact w64n _ (by omega)
  · rw [shl_one _ (by omega)]
    generalize 2 ^ (w * h) = p at hp hp1
    rw [w64 (by omega) (by omega)]
    omega
  · unfold lt2
    omega
theorem full_free' (w h : Nat) (hw6 : w ≤ 6) (hh : h ≤ 6) : wrap64 ((w : Int) * (h : Int)) = ((w * h : Nat) : Int) ∧ ∃ F : Nat, wrap64 (shl .i64 1 ((w * h : Nat) : Int) - 1) = (F : Int) ∧ lt2 F (w * h) :=
  ⟨(full_free w h hw6 hh).1, _, (full_free w h hw6 hh).2.1, (full_free w h hw6 hh).2.2⟩
theorem areShapes_f (w h : Int) (l : List Int) : impl_areShapes.f w h l = some (tab w h && l.all fun m => shapeOk w h m) := by
  unfold impl_areShapes.f
  simp only [isTable_f, Option.bind_some, ShapeOk_f]
  by_cases ht : tab w h = true
  · simp only [ht, if_true, Bool.true_and]
    congr 2
    funext m
    cases shapeOk w h m <;> rfl
  · simp [ht]
def allN (w h : Nat) (turn : Bool) : List Nat → Nat → List (List Int)
  | [], _ => [[]]
  | M :: r, F => (laysOf w h F M turn).flatMap fun x => (allN w h turn r (andn F x.toNat)).map (x :: ·)
def runV {St : Type} (vis : List Int → St → Bool × St) : List (List Int) → St → Bool × St
  | [], s => (true, s)
  | x :: r, s => if (vis x s).1 = true then runV vis r (vis x s).2 else (false, (vis x s).2)
theorem runV_app {St : Type} (vis : List Int → St → Bool × St) (a b : List (List Int)) : ∀ s, runV vis (a ++ b) s = if (runV vis a s).1 = true then runV vis b (runV vis a s).2 else (false, (runV vis a s).2) := by
  induction a with
  | nil => intro s; simp [runV]
  | cons x r ih =>
    intro s
    rw [List.cons_append, runV, runV]
    by_cases h : (vis x s).1 = true
    · rw [if_pos h, if_pos h, ih]
    · rw [if_neg h, if_neg h]
      simp
theorem rd_natsN (ns : List Nat) (i : Nat) (hlt : i < ns.length) : rd (ns.map Int.ofNat) (i : Int) = (ns[i] : Int) := by
  rw [rd_get _ i (by rw [List.length_map]; exact hlt), List.getElem_map]
  rfl
section
variable {w h : Nat} (hw : 1 ≤ w) (hw6 : w ≤ 6) (hh : h ≤ 6) (turn : Bool)
include hw hw6 hh
theorem lay_at (F : Nat) (hF : lt2 F (w * h)) (M i : Nat) (hi : i < (laysOf w h F M turn).length) : ∃ b : Nat, (laysOf w h F M turn)[i] = (b : Int) ∧ Go.bits .andNot .i64 (F : Int) (b : Int) = ((andn F b : Nat) : Int) ∧ wrap64 ((F : Int) - (b : Int)) = ((andn F b : Nat) : Int) ∧ lt2 (andn F b) (w * h) := by
  have hN : w * h ≤ 36 := Nat.mul_le_mul hw6 hh
  obtain ⟨b, b0, hb, hs⟩ := laysOf_mem w h F M turn _ (List.getElem_mem hi)
  obtain ⟨g1, g2⟩ := off_both b F (lt2_lt hN hF) hs
  exact ⟨b, hb, g1, g2, off_lt2 hF⟩
theorem en_all {St : Type} (vis : List Int → St → Bool × St) (ns : List Nat) (hns : ∀ M ∈ ns, lt2 M (w * h) ∧ M ≠ 0) (hnl : ns.length ≤ 12) (d : Nat) : ∀ (nest : List Int) (F : Nat) (s : St), ns.length - nest.length = d → nest.length ≤ ns.length → lt2 F (w * h) →
    Ev (fun k => en.lay vis k (w : Int) (h : Int) turn (ns.map Int.ofNat) (F : Int) nest s) (runV vis ((allN w h turn (ns.drop nest.length) F).map (nest ++ ·)) s) := by
  have hN : w * h ≤ 36 := Nat.mul_le_mul hw6 hh
  induction d with
  | zero =>
    intro nest F s hd hl hF
    have e : ns.drop nest.length = [] := List.drop_of_length_le (by omega)
    have h1 : (nest.length < 100) = True := eq_true (by omega)
    have h2 : (nest.length = (ns.map Int.ofNat).length) = True := eq_true (by rw [List.length_map]; omega)
    rw [e]
    refine Ev.step (f := fun _ => some (vis nest s)) (fun k => ?_) ?_
    · simp only [en.lay, h1, h2, if_true]
    · have e2 : runV vis ((allN w h turn [] F).map (nest ++ ·)) s = vis nest s := by
        simp only [allN, List.map_cons, List.map_nil, List.append_nil, runV]
        cases hv : vis nest s with
        | mk b s' => cases b <;> simp
      rw [e2]
      exact Ev.now _
  | succ d ih =>
    intro nest F s hd hl hF
    have hlt : nest.length < ns.length := by omega
    have h1 : (nest.length < 100) = True := eq_true (by omega)
    have h2 : (nest.length = (ns.map Int.ofNat).length) = False := eq_false (by rw [List.length_map]; omega)
    have h3 : (nest.length < (ns.map Int.ofNat).length) = True := eq_true (by rw [List.length_map]; omega)
    have hM := hns ns[nest.length] (List.getElem_mem hlt)
    have er := Aside0.mk (rd_natsN ns nest.length hlt)
    rw [List.drop_eq_getElem_cons hlt, allN]
    generalize ns[nest.length] = M at er hM ⊢
    have hlay := layings_f hw hw6 hh (lt2_lt hN hF) hM.2 hM.1 turn
    have hat := lay_at hw hw6 hh turn F hF M
    have hle := laysOf_facts w h F M hw6 hh turn
    generalize laysOf w h F M turn = L at hlay hat hle ⊢
    have loop : ∀ (e i : Nat) (s : St), L.length - i = e → i ≤ L.length →
        Ev (fun k => en.lp vis k (w : Int) (h : Int) turn (ns.map Int.ofNat) (F : Int) nest L (i : Int) s) (runV vis (((L.drop i).flatMap fun x => (allN w h turn (ns.drop (nest.length + 1)) (andn F x.toNat)).map (x :: ·)).map (nest ++ ·)) s) := by
      intro e
      induction e with
      | zero =>
        intro i s he hi
        rw [List.drop_of_length_le (show L.length ≤ i by omega)]
        refine Ev.step (f := fun _ => some (true, s)) (fun k => ?_) (Ev.now _)
        simp only [en.lp, lt_f (show L.length ≤ i by omega), if_false]
      | succ e ih2 =>
        intro i s he hi
        have hil : i < L.length := by omega
        have he1 : L.length - (i + 1) = e := by omega
        have hi1 : i + 1 ≤ L.length := by omega
        have hd1 : ns.length - (nest.length + 1) = d := by omega
        have hi3 := w1 (show i ≤ 140737488355328 by omega)
        obtain ⟨b, b1, b2, b3, b4⟩ := hat i hil
        have eb : rd L (i : Int) = (b : Int) := (rd_get _ i hil).trans b1
        have A := ih (nest ++ [(b : Int)]) (andn F b) s (by rw [List.length_append, List.length_singleton]; exact hd1) (by rw [List.length_append, List.length_singleton]; exact hlt) b4
        rw [List.length_append, List.length_singleton] at A
        have em : (allN w h turn (ns.drop (nest.length + 1)) (andn F b)).map ((nest ++ [(b : Int)]) ++ ·) = ((allN w h turn (ns.drop (nest.length + 1)) (andn F b)).map ((b : Int) :: ·)).map (nest ++ ·) := by
          rw [List.map_map]
          refine List.map_congr_left fun x _ => ?_
          simp
        rw [em] at A
        rw [List.drop_eq_getElem_cons hil, List.flatMap_cons, List.map_append, runV_app, b1, Int.toNat_natCast]
        refine Ev.step (f := fun k => (en.lay vis k (w : Int) (h : Int) turn (ns.map Int.ofNat) ((andn F b : Nat) : Int) (nest ++ [(b : Int)]) s).bind fun t => if t.1 = true then en.lp vis k (w : Int) (h : Int) turn (ns.map Int.ofNat) (F : Int) nest L ((i + 1 : Nat) : Int) t.2 else some (false, t.2)) (fun k => ?_) (Ev.bind A ?_)
        · simp only [en.lp, lt_t hil, nn_t, if_true, eb, b2, hi3]
        · generalize runV vis (((allN w h turn (ns.drop (nest.length + 1)) (andn F b)).map ((b : Int) :: ·)).map (nest ++ ·)) s = t
          obtain ⟨t1, t2⟩ := t
          cases t1 with
          | true =>
            simp only [if_true]
            exact ih2 (i + 1) t2 he1 hi1
          | false =>
            simp only [Bool.false_eq_true, if_false]
            exact Ev.now _
    have L0 := loop L.length 0 s rfl (Nat.zero_le _)
    rw [List.drop_zero] at L0
    refine Ev.step (f := fun k => (impl_layings.f k (w : Int) (h : Int) (F : Int) (M : Int) turn).bind fun L => en.lp vis k (w : Int) (h : Int) turn (ns.map Int.ofNat) (F : Int) nest L 0 s) (fun k => ?_) (Ev.bind hlay L0)
    simp only [en.lay, h1, h2, h3, if_true, if_false, er.out]
end
theorem index_l (l : List Int) (hl : l.length ≤ 1000) (d : Nat) : ∀ i : Nat, l.length - i = d → i ≤ l.length → ∃ r : Int, Ev (fun k => slices_Index_int_int.l0 k l 0 (l.length : Int) (i : Int)) r ∧ (decide (r ≥ 0) = decide (0 ∈ l.drop i)) := by
  induction d with
  | zero =>
    intro i hd hi
    refine ⟨-1, Ev.step (f := fun _ => some (-1)) (fun k => ?_) (Ev.now _), ?_⟩
    · simp only [slices_Index_int_int.l0, lt_f (show l.length ≤ i by omega), if_false]
    · rw [List.drop_of_length_le (by omega)]; simp
  | succ d ih =>
    intro i hd hi
    have hlt : i < l.length := by omega
    by_cases hz : (0 : Int) = l[i]
    · refine ⟨(i : Int), Ev.step (f := fun _ => some (i : Int)) (fun k => ?_) (Ev.now _), ?_⟩
      · simp only [slices_Index_int_int.l0, lt_t hlt, nn_t, if_true, rd_get l i hlt]
        rw [if_pos hz]
      · rw [List.drop_eq_getElem_cons hlt, ← hz]
        simp
    · obtain ⟨r, h1, h2⟩ := ih (i + 1) (by omega) (by omega)
      refine ⟨r, Ev.step (fun k => ?_) h1, ?_⟩
      · simp only [slices_Index_int_int.l0, lt_t hlt, nn_t, if_true, rd_get l i hlt, w1 (show i ≤ 140737488355328 by omega)]
        rw [if_neg hz]
      · rw [h2, List.drop_eq_getElem_cons hlt, decide_eq_decide, List.mem_cons]
        exact ⟨.inr, fun h => h.resolve_left hz⟩
theorem contains_f (l : List Int) (hl : l.length ≤ 1000) : Ev (fun k => slices_Contains_int_int.f k l 0) (decide ((0 : Int) ∈ l)) := by
  obtain ⟨r, h1, h2⟩ := index_l l hl l.length 0 rfl (by omega)
  rw [List.drop_zero] at h2
  rw [← h2]
  unfold slices_Contains_int_int.f slices_Index_int_int.f
  exact Ev.bind h1 (Ev.now _)
theorem low_ge (l : List S46) (a b : Int) (ha : 0 ≤ a) (hb : 0 ≤ b) (h : ∀ q ∈ l, 0 ≤ q.f0 ∧ 0 ≤ q.f1) : 0 ≤ (l.foldl lowF (a, b)).1 ∧ 0 ≤ (l.foldl lowF (a, b)).2 := by
  induction l generalizing a b with
  | nil => exact ⟨ha, hb⟩
  | cons x r ih =>
    rw [List.foldl_cons]
    obtain ⟨h0, h1⟩ := h x (by simp)
    refine ih (mn a x.f0) (mn b x.f1) ?_ ?_ (fun q hq => h q (by simp [hq]))
    · unfold mn; split <;> omega
    · unfold mn; split <;> omega
theorem low_hit (l : List S46) (a b : Int) : ((l.foldl lowF (a, b)).1 = a ∨ ∃ q ∈ l, (l.foldl lowF (a, b)).1 = q.f0) ∧ ((l.foldl lowF (a, b)).2 = b ∨ ∃ q ∈ l, (l.foldl lowF (a, b)).2 = q.f1) := by
  induction l generalizing a b with
  | nil => exact ⟨.inl rfl, .inl rfl⟩
  | cons x r ih =>
    rw [List.foldl_cons]
    obtain ⟨h1, h2⟩ := ih (mn a x.f0) (mn b x.f1)
    have e : lowF (a, b) x = (mn a x.f0, mn b x.f1) := rfl
    rw [e]
    constructor
    · rcases h1 with h1 | ⟨q, hq, h1⟩
      · rw [h1]
        unfold mn
        split
        · exact .inr ⟨x, by simp, rfl⟩
        · exact .inl rfl
      · exact .inr ⟨q, by simp [hq], h1⟩
    · rcases h2 with h2 | ⟨q, hq, h2⟩
      · rw [h2]
        unfold mn
        split
        · exact .inr ⟨x, by simp, rfl⟩
        · exact .inl rfl
      · exact .inr ⟨q, by simp [hq], h2⟩
theorem lowOf_hit (l : List S46) (h0 : 0 < l.length) : (∃ q ∈ l, (lowOf l).1 = q.f0) ∧ ∃ q ∈ l, (lowOf l).2 = q.f1 := by
  have e : rd_T46 l 0 = l[0] := rdP_get l 0 h0
  obtain ⟨h1, h2⟩ := low_hit l (rd_T46 l 0).f0 (rd_T46 l 0).f1
  unfold lowOf
  constructor
  · rcases h1 with h1 | h1
    · exact ⟨l[0], List.getElem_mem h0, by rw [h1, e]⟩
    · exact h1
  · rcases h2 with h2 | h2
    · exact ⟨l[0], List.getElem_mem h0, by rw [h2, e]⟩
    · exact h2
theorem movedL_zero (m : Nat) (L : List S46) (h0 : 0 < L.length) : (∃ q ∈ movedL m L, q.f0 = 0) ∧ ∃ q ∈ movedL m L, q.f1 = 0 := by
  obtain ⟨⟨q, hq, e⟩, p, hp, g⟩ := lowOf_hit (L.map (mvP m)) (by simpa using h0)
  refine ⟨⟨subP (lowOf (L.map (mvP m))) q, List.mem_map.mpr ⟨q, hq, rfl⟩, ?_⟩, ⟨subP (lowOf (L.map (mvP m))) p, List.mem_map.mpr ⟨p, hp, rfl⟩, ?_⟩⟩
  · simp only [subP]; omega
  · simp only [subP]; omega
theorem putI_true (w h : Nat) (Q : List S46) (C : Nat) : ∀ a, putI w h Q a = (C, true) → (∀ q ∈ Q, q.f0 < (w : Int) ∧ q.f1 < (h : Int)) ∧ ∀ j, C.testBit j = true ↔ a.testBit j = true ∨ ∃ q ∈ Q, idx w q = j := by
  induction Q with
  | nil =>
    intro a e
    obtain rfl : a = C := (Prod.mk.inj e).1
    exact ⟨by simp, fun j => by simp⟩
  | cons q r ih =>
    intro a e
    rw [putI] at e
    by_cases c0 : q.f0 ≥ (w : Int)
    · rw [if_pos c0] at e; exact absurd (Prod.mk.inj e).2 (by simp)
    · by_cases c1 : q.f1 ≥ (h : Int)
      · rw [if_neg c0, if_pos c1] at e; exact absurd (Prod.mk.inj e).2 (by simp)
      · rw [if_neg c0, if_neg c1] at e
        obtain ⟨h1, h2⟩ := ih _ e
        refine ⟨fun p hp => ?_, fun j => ?_⟩
        · rcases List.mem_cons.mp hp with rfl | hp
          · exact ⟨by omega, by omega⟩
          · exact h1 p hp
        · rw [h2, Nat.testBit_or, Bool.or_eq_true, Nat.testBit_two_pow, decide_eq_true_eq]
          constructor
          · rintro ((a1 | a1) | ⟨p, hp, a1⟩)
            · exact .inl a1
            · exact .inr ⟨q, by simp, a1⟩
            · exact .inr ⟨p, by simp [hp], a1⟩
          · rintro (a1 | ⟨p, hp, a1⟩)
            · exact .inl (.inl a1)
            · rcases List.mem_cons.mp hp with rfl | hp
              · exact .inl (.inr a1)
              · exact .inr ⟨p, hp, a1⟩
theorem putI_ok (w h : Nat) (Q : List S46) : ∀ a, (∀ q ∈ Q, q.f0 < (w : Int) ∧ q.f1 < (h : Int)) → (putI w h Q a).2 = true := by
  induction Q with
  | nil => intro a _; rfl
  | cons q r ih =>
    intro a hq
    have := hq q (by simp)
    rw [putI, if_neg (by omega), if_neg (by omega)]
    exact ih _ (fun p hp => hq p (by simp [hp]))
theorem pt_idx (w : Nat) (q : S46) (h : nn q) (h0 : q.f0 < (w : Int)) : ptOf w (idx w q) = q := by
  obtain ⟨⟨a1, a2⟩, b1, b2⟩ := h
  obtain ⟨x, hx⟩ := Int.eq_ofNat_of_zero_le a1
  obtain ⟨y, hy⟩ := Int.eq_ofNat_of_zero_le b1
  have hxw : x < w := by omega
  obtain ⟨f0, f1⟩ := q
  simp only at hx hy
  subst hx hy
  unfold ptOf idx
  simp only [Int.toNat_natCast, S46.mk.injEq]
  constructor
  · rw [Nat.mul_add_mod_self_right, Nat.mod_eq_of_lt hxw]
  · rw [Nat.mul_comm, Nat.mul_add_div (by omega), Nat.div_eq_of_lt hxw, Nat.add_zero]
theorem map_id' (l : List S46) (f : S46 → S46) (h : ∀ q ∈ l, f q = q) : l.map f = l := by
  induction l with
  | nil => rfl
  | cons a r ih => rw [List.map_cons, h a (by simp), ih (fun q hq => h q (by simp [hq]))]
theorem mvM_corner (w h M m : Nat) (hw : 1 ≤ w) (hw6 : w ≤ 6) (hh : h ≤ 6) (hM : M ≠ 0) (hl : M < 2 ^ (w * h)) (hok : (mvM w h M m).2 = true) : (mvM w h M m).1 ≠ 0 ∧ mvM w h (mvM w h M m).1 0 = ((mvM w h M m).1, true) := by
  have hN : w * h ≤ 36 := Nat.mul_le_mul hw6 hh
  obtain ⟨p1, p2, p3⟩ := pts_facts w (w * h) M hN
  have p4 := pts_pos w (w * h) M hM hl
  obtain ⟨q1, q2, q3⟩ := movedL_facts m _ p4 p1 p2
  obtain ⟨⟨u, hu, u0⟩, v, hv, v0⟩ := movedL_zero m _ p4
  have hlt := mvM_lt w h M m hw6 hh hM hl
  have e : putI w h (movedL m ((cellsOf (w * h) M).map (ptOf w))) 0 = ((mvM w h M m).1, true) := by
    rw [← hok]; rfl
  generalize (mvM w h M m).1 = C at e hlt ⊢
  generalize movedL m ((cellsOf (w * h) M).map (ptOf w)) = Q at e q1 q2 q3 hu hv
  obtain ⟨r1, r2⟩ := putI_true w h Q C 0 e
  have r3 : ∀ j, C.testBit j = true ↔ ∃ q ∈ Q, idx w q = j := fun j => by rw [r2]; simp
  have hC : C ≠ 0 := by
    intro e0
    have := (r3 (idx w u)).mpr ⟨u, hu, rfl⟩
    rw [e0] at this
    simp at this
  refine ⟨hC, ?_⟩
  -- the cells of C, as points, are Q's points
  have mem : ∀ p, p ∈ (cellsOf (w * h) C).map (ptOf w) ↔ p ∈ Q := by
    intro p
    rw [List.mem_map]
    constructor
    · rintro ⟨c, hc, rfl⟩
      obtain ⟨q, hq, rfl⟩ := (r3 c).mp (List.mem_filter.mp hc).2
      rw [pt_idx w q (q1 q hq) (r1 q hq).1]
      exact hq
    · intro hp
      refine ⟨idx w p, List.mem_filter.mpr ⟨?_, (r3 _).mpr ⟨p, hp, rfl⟩⟩, pt_idx w p (q1 p hp) (r1 p hp).1⟩
      obtain ⟨g1, g2⟩ := idx_int w h hN p (q1 p hp) (by have := (r1 p hp).1; omega) (by have := (r1 p hp).2; omega)
      exact List.mem_range'_1.mpr ⟨Nat.zero_le _, by omega⟩
  have hpos := pts_pos w (w * h) C hC hlt
  have hsm := (pts_facts w (w * h) C hN).1
  have hmv : ((cellsOf (w * h) C).map (ptOf w)).map (mvP 0) = (cellsOf (w * h) C).map (ptOf w) := map_id' _ _ (fun q _ => by simp [mvP])
  have hlow : lowOf ((cellsOf (w * h) C).map (ptOf w)) = (0, 0) := by
    obtain ⟨_, l5⟩ := lowOf_facts 100 _ hpos hsm
    have g1 := (l5 u ((mem u).mpr hu)).1
    have g2 := (l5 v ((mem v).mpr hv)).2
    have hnn : ∀ q ∈ (cellsOf (w * h) C).map (ptOf w), 0 ≤ q.f0 ∧ 0 ≤ q.f1 := fun q hq => ⟨(q1 q ((mem q).mp hq)).1.1, (q1 q ((mem q).mp hq)).2.1⟩
    have e0 : rd_T46 ((cellsOf (w * h) C).map (ptOf w)) 0 = ((cellsOf (w * h) C).map (ptOf w))[0] := rdP_get _ 0 hpos
    have hn0 := hnn _ (List.getElem_mem hpos)
    have g3 := low_ge ((cellsOf (w * h) C).map (ptOf w)) (rd_T46 ((cellsOf (w * h) C).map (ptOf w)) 0).f0 (rd_T46 ((cellsOf (w * h) C).map (ptOf w)) 0).f1 (by rw [e0]; exact hn0.1) (by rw [e0]; exact hn0.2) hnn
    have g4 : 0 ≤ (lowOf ((cellsOf (w * h) C).map (ptOf w))).1 ∧ 0 ≤ (lowOf ((cellsOf (w * h) C).map (ptOf w))).2 := g3
    generalize lowOf ((cellsOf (w * h) C).map (ptOf w)) = o at g1 g2 g4 ⊢
    obtain ⟨o1, o2⟩ := o
    simp only [Prod.mk.injEq]
    simp only at g1 g2 g4
    omega
  have hmove : movedL 0 ((cellsOf (w * h) C).map (ptOf w)) = (cellsOf (w * h) C).map (ptOf w) := by
    unfold movedL
    rw [hmv, hlow]
    exact map_id' _ _ (fun q _ => by cases q; simp [subP])
  have hok2 := putI_ok w h ((cellsOf (w * h) C).map (ptOf w)) 0 (fun q hq => r1 q ((mem q).mp hq))
  have e2 : putI w h ((cellsOf (w * h) C).map (ptOf w)) 0 = ((putI w h ((cellsOf (w * h) C).map (ptOf w)) 0).1, true) := by rw [← hok2]
  obtain ⟨_, s2⟩ := putI_true w h _ _ 0 e2
  have e3 : (putI w h ((cellsOf (w * h) C).map (ptOf w)) 0).1 = C := by
    refine Nat.eq_of_testBit_eq fun j => ?_
    rw [Bool.eq_iff_iff, s2, r3]
    constructor
    · rintro (a1 | ⟨q, hq, a1⟩)
      · simp at a1
      · exact ⟨q, (mem q).mp hq, a1⟩
    · rintro ⟨q, hq, a1⟩
      exact .inr ⟨q, (mem q).mpr hq, a1⟩
  unfold mvM
  rw [hmove, e2, e3]
set_option linter.unusedSectionVars false
theorem and255 (v : Int) : 0 ≤ Go.bits .and .i64 v 255 ∧ Go.bits .and .i64 v 255 ≤ 255 := by
  have h : (BitVec.ofInt 64 v &&& BitVec.ofInt 64 255).toNat ≤ 255 := by
    rw [BitVec.toNat_and]
    exact Nat.le_trans Nat.and_le_right (by decide)
  have e : Go.bits .and .i64 v 255 = (((BitVec.ofInt 64 v &&& BitVec.ofInt 64 255).toNat : Nat) : Int) := by
    show IntKind.i64.wrap ((BitVec.ofInt 64 v &&& BitVec.ofInt 64 255).toNat : Int) = _
    rw [wrap_i64, w64 (by omega) (by omega)]
  rw [e]
  omega
section
variable {b : List Int} (hb : b.length ≤ 1048576)
include hb
theorem byte_f (p h : Int) (hp : 0 ≤ p ∧ p ≤ (b.length : Int)) : ∃ x p' h', spec_l01Byte.f b p h = some (x, p', h') ∧ (0 ≤ x ∧ x ≤ 255) ∧ 0 ≤ p' ∧ p' ≤ (b.length : Int) := by
  unfold spec_l01Byte.f
  by_cases c : p < (b.length : Int)
  · rw [if_pos c, if_pos hp.1]
    refine ⟨_, _, _, rfl, and255 _, ?_⟩
    rw [w64 (by omega) (by omega)]
    omega
  · rw [if_neg c]
    exact ⟨_, _, _, rfl, and255 _, hp⟩
theorem below_f (p h n : Int) (hp : 0 ≤ p ∧ p ≤ (b.length : Int)) (hn : 1 ≤ n ∧ n ≤ 256) : ∃ x p' h', spec_l01Below.f b p h n = some (x, p', h') ∧ (0 ≤ x ∧ x < n) ∧ 0 ≤ p' ∧ p' ≤ (b.length : Int) := by
  obtain ⟨x, p', h', e, hx, hp'⟩ := byte_f hb p h hp
  refine ⟨Int.tmod x n, p', h', ?_, ⟨Int.tmod_nonneg _ hx.1, Int.tmod_lt_of_pos _ (by omega)⟩, hp'⟩
  unfold spec_l01Below.f
  rw [if_neg (by omega), if_pos hn.2, e]
  simp only [Option.bind_some]
  rw [if_neg (by omega)]
theorem new_l (d : Nat) : ∀ (i : Nat) (h : Int), b.length - i = d → i ≤ b.length → ∃ h', Ev (fun k => spec_l01New.l0 k b h (i : Int)) (b, 0, h') := by
  induction d with
  | zero =>
    intro i h hd hi
    refine ⟨h, Ev.step (f := fun _ => some (b, 0, h)) (fun k => ?_) (Ev.now _)⟩
    simp only [spec_l01New.l0, lt_f (show b.length ≤ i by omega), if_false]
  | succ d ih =>
    intro i h hd hi
    have hlt : i < b.length := by omega
    by_cases c : (i : Int) < 4000
    · obtain ⟨h', H⟩ := ih (i + 1) (Go.bits .and .i64 (wrap64 ((wrap64 ((wrap64 (h * 179)) + (wrap64 (rd b (i : Int))))) + 7)) 1073741823) (by omega) (by omega)
      refine ⟨h', Ev.step (fun k => ?_) H⟩
      simp only [spec_l01New.l0, lt_t hlt, nn_t, if_true, c, w1 (show i ≤ 140737488355328 by omega)]
    · refine ⟨h, Ev.step (f := fun _ => some (b, 0, h)) (fun k => ?_) (Ev.now _)⟩
      simp only [spec_l01New.l0, lt_t hlt, if_true, c, if_false]
theorem l31_l (n : Nat) (hn : n ≤ 100) (d : Nat) : ∀ (i : Nat) (p h : Int), n - i = d → i ≤ n → (0 ≤ p ∧ p ≤ (b.length : Int)) → ∃ p' h', Ev (fun k => spec_l31New.l0 k (n : Int) b p h (i : Int)) (b, p', h') ∧ 0 ≤ p' ∧ p' ≤ (b.length : Int) := by
  induction d with
  | zero =>
    intro i p h hd hi hp
    refine ⟨p, h, Ev.step (f := fun _ => some (b, p, h)) (fun k => ?_) (Ev.now _), hp⟩
    simp only [spec_l31New.l0, lt_f (show n ≤ i by omega), if_false]
  | succ d ih =>
    intro i p h hd hi hp
    have hlt : i < n := by omega
    obtain ⟨x, p1, h1, e, _, hp1⟩ := byte_f hb p h hp
    obtain ⟨p', h', H, hp'⟩ := ih (i + 1) p1 h1 (by omega) (by omega) hp1
    refine ⟨p', h', Ev.step (fun k => ?_) H, hp'⟩
    simp only [spec_l31New.l0, lt_t hlt, if_true, e, Option.bind_some, w1 (show i ≤ 140737488355328 by omega)]
theorem l31_f (n : Nat) (hn : n ≤ 100) : ∃ p' h', Ev (fun k => spec_l31New.f k b (n : Int)) (b, p', h') ∧ 0 ≤ p' ∧ p' ≤ (b.length : Int) := by
  obtain ⟨h0, H0⟩ := new_l hb b.length 0 (wrap64 (2173 + (b.length : Int))) rfl (Nat.zero_le _)
  obtain ⟨p', h', H, hp'⟩ := l31_l hb n hn n 0 0 h0 rfl (Nat.zero_le _) ⟨by omega, by omega⟩
  refine ⟨p', h', ?_, hp'⟩
  unfold spec_l31New.f spec_l01New.f
  exact Ev.bind H0 H
end

def nbr (w h c b : Nat) : Prop := (c % w > 0 ∧ b + 1 = c) ∨ (c % w + 1 < w ∧ b = c + 1) ∨ (c / w > 0 ∧ b + w = c) ∨ (c / w + 1 < h ∧ b = c + w)
theorem dm (w x y : Nat) (hx : x < w) : (y * w + x) % w = x ∧ (y * w + x) / w = y := by
  constructor
  · rw [Nat.mul_add_mod_self_right, Nat.mod_eq_of_lt hx]
  · rw [Nat.mul_comm, Nat.mul_add_div (by omega), Nat.div_eq_of_lt hx, Nat.add_zero]
theorem grid_open (w h M : Nat) (hw : 1 ≤ w) (hM : M ≠ 0) (hl : lt2 M (w * h)) (c0 : Nat) (hc0 : c0 < w * h) (hn : M.testBit c0 = false) : ∃ c b, M.testBit c = true ∧ nbr w h c b ∧ M.testBit b = false := by
  refine Classical.byContradiction fun hno => ?_
  have cl : ∀ c b, M.testBit c = true → nbr w h c b → M.testBit b = true := fun c b hc hb => by
    cases e : M.testBit b with
    | true => rfl
    | false => exact absurd ⟨c, b, hc, hb, e⟩ hno
  obtain ⟨i, hi⟩ := Nat.exists_testBit_of_ne_zero hM
  have hiN : i < w * h := by
    refine Decidable.byContradiction fun h => ?_
    rw [Nat.testBit_lt_two_pow (Nat.lt_of_lt_of_le hl (Nat.pow_le_pow_right (by omega) (by omega)))] at hi
    exact absurd hi (by simp)
  have R : ∀ x y, x + 1 < w → M.testBit (y * w + x) = true → M.testBit (y * w + (x + 1)) = true := fun x y hx hb => by
    obtain ⟨d1, d2⟩ := dm w x y (by omega)
    exact cl _ _ hb (.inr (.inl ⟨by rw [d1]; exact hx, rfl⟩))
  have L : ∀ x y, x + 1 < w → M.testBit (y * w + (x + 1)) = true → M.testBit (y * w + x) = true := fun x y hx hb => by
    obtain ⟨d1, d2⟩ := dm w (x + 1) y hx
    exact cl _ _ hb (.inl ⟨by rw [d1]; omega, rfl⟩)
  have U : ∀ x y, x < w → M.testBit ((y + 1) * w + x) = true → M.testBit (y * w + x) = true := fun x y hx hb => by
    obtain ⟨d1, d2⟩ := dm w x (y + 1) hx
    exact cl _ _ hb (.inr (.inr (.inl ⟨by rw [d2]; omega, by rw [Nat.add_mul, Nat.one_mul]; omega⟩)))
  have D : ∀ x y, x < w → y + 1 < h → M.testBit (y * w + x) = true → M.testBit ((y + 1) * w + x) = true := fun x y hx hy hb => by
    obtain ⟨d1, d2⟩ := dm w x y hx
    exact cl _ _ hb (.inr (.inr (.inr ⟨by rw [d2]; exact hy, by rw [Nat.add_mul, Nat.one_mul]; omega⟩)))
  have left : ∀ n x y, x + n < w → M.testBit (y * w + (x + n)) = true → M.testBit (y * w + x) = true := by
    intro n
    induction n with
    | zero => intro x y _ hb; exact hb
    | succ n ih => intro x y hx hb; exact ih x y (by omega) (L (x + n) y (by omega) hb)
  have right : ∀ n x y, x + n < w → M.testBit (y * w + x) = true → M.testBit (y * w + (x + n)) = true := by
    intro n
    induction n with
    | zero => intro x y _ hb; exact hb
    | succ n ih => intro x y hx hb; exact R (x + n) y (by omega) (ih x y (by omega) hb)
  have up : ∀ n x y, x < w → M.testBit ((y + n) * w + x) = true → M.testBit (y * w + x) = true := by
    intro n
    induction n with
    | zero => intro x y _ hb; exact hb
    | succ n ih => intro x y hx hb; exact ih x y hx (U x (y + n) hx hb)
  have down : ∀ n x y, x < w → y + n < h → M.testBit (y * w + x) = true → M.testBit ((y + n) * w + x) = true := by
    intro n
    induction n with
    | zero => intro x y _ _ hb; exact hb
    | succ n ih => intro x y hx hy hb; exact D x (y + n) hx (by omega) (ih x y hx (by omega) hb)
  have hpos : 0 < w := hw
  have ei : (i / w) * w + i % w = i := by rw [Nat.mul_comm]; exact Nat.div_add_mod i w
  have ec : (c0 / w) * w + c0 % w = c0 := by rw [Nat.mul_comm]; exact Nat.div_add_mod c0 w
  have xi := Nat.mod_lt i hpos
  have xc := Nat.mod_lt c0 hpos
  have yc : c0 / w < h := Nat.div_lt_of_lt_mul hc0
  have yi : i / w < h := Nat.div_lt_of_lt_mul hiN
  rw [← ei] at hi
  rw [← ec] at hn
  generalize i / w = yi0 at *
  generalize i % w = xi0 at *
  generalize c0 / w = yc0 at *
  generalize c0 % w = xc0 at *
  have h1 : M.testBit (yi0 * w + xc0) = true := by
    by_cases c : xi0 ≤ xc0
    · obtain ⟨n, rfl⟩ := Nat.exists_eq_add_of_le c
      exact right n xi0 yi0 xc hi
    · obtain ⟨n, rfl⟩ := Nat.exists_eq_add_of_le (Nat.le_of_not_le c)
      exact left n xc0 yi0 xi hi
  have h2 : M.testBit (yc0 * w + xc0) = true := by
    by_cases c : yi0 ≤ yc0
    · obtain ⟨n, rfl⟩ := Nat.exists_eq_add_of_le c
      exact down n xc0 yi0 xc yc h1
    · obtain ⟨n, rfl⟩ := Nat.exists_eq_add_of_le (Nat.le_of_not_le c)
      exact up n xc0 yc0 xc h1
  rw [h2] at hn
  exact absurd hn (by simp)
theorem wr_up (y x w : Nat) (hy : 0 < y) (hw : w ≤ 6) (hi : y * w + x ≤ 36) : wrap64 (((y * w + x : Nat) : Int) - (w : Int)) = ((y * w + x - w : Nat) : Int) ∧ y * w + x - w + w = y * w + x := by
  have h1 : 1 * w ≤ y * w := Nat.mul_le_mul_right w hy
  rw [Nat.one_mul] at h1
  generalize y * w = z at *
  refine ⟨?_, by omega⟩
  rw [w64 (by omega) (by omega)]
  omega
theorem wr_ix (y x w : Nat) (hi : y * w + x ≤ 36) : wrap64 (wrap64 ((y : Int) * (w : Int)) + (x : Int)) = ((y * w + x : Nat) : Int) := by
  rw [← Int.natCast_mul, w64n _ (by omega)]
  generalize y * w = z at *
  rw [show ((z : Nat) : Int) + (x : Int) = ((z + x : Nat) : Int) by omega, w64n _ (by omega)]
theorem wr_pm (i w : Nat) (hi : i ≤ 36) (hw : w ≤ 6) : wrap64 ((i : Int) + (w : Int)) = ((i + w : Nat) : Int) ∧ wrap64 ((i : Int) + 1) = ((i + 1 : Nat) : Int) ∧ (0 < i → wrap64 ((i : Int) - 1) = ((i - 1 : Nat) : Int)) := by
  refine ⟨?_, w1 (by omega), fun h => ?_⟩
  · rw [w64 (by omega) (by omega)]; omega
  · rw [w64 (by omega) (by omega)]; omega
def st1 (x i out : Nat) : Nat := if x > 0 then out ||| 2 ^ (i - 1) else out
def st2 (w x i out : Nat) : Nat := if x + 1 < w then out ||| 2 ^ (i + 1) else out
def st3 (w y i out : Nat) : Nat := if y > 0 then out ||| 2 ^ (i - w) else out
def st4 (w h y i out : Nat) : Nat := if y + 1 < h then out ||| 2 ^ (i + w) else out
section
variable {w h M : Nat} (hw : 1 ≤ w) (hw6 : w ≤ 6) (hh : h ≤ 6)
include hw hw6 hh
theorem near_j3 (out x y : Nat) (hx : x < w) (hy : y < h) (ho : lt2 out (w * h)) (R : Int)
    (H : Ev (fun k => spec_l08Near.l1 k (w : Int) (h : Int) (M : Int) ((st4 w h y (y * w + x) (st3 w y (y * w + x) out) : Nat) : Int) (y : Int) ((x + 1 : Nat) : Int)) R) :
    Ev (fun k => spec_l08Near.j3 k (w : Int) (h : Int) (M : Int) (out : Int) (y : Int) (x : Int)) R := by
  have hN : w * h ≤ 36 := Nat.mul_le_mul hw6 hh
  have hi := idx_lt hx hy
  have hi36 : y * w + x ≤ 36 := Nat.le_trans (Nat.le_of_lt hi) hN
  have e0 := wr_ix y x w hi36
  obtain ⟨e1, e2, _⟩ := wr_pm (y * w + x) w hi36 hw6
  have ex := w1 (show x ≤ 140737488355328 by clear e0 e1 e2; omega)
  have ey := w1 (show y ≤ 140737488355328 by clear e0 e1 e2 ex; omega)
  have dn : y + 1 < h → y * w + x + w < w * h := fun hyh => by
    have := idx_lt (w := w) (h := h) (x := x) (y := y + 1) hx hyh
    rw [Nat.add_mul, Nat.one_mul] at this
    clear e0 e1 e2 ex ey
    omega
  by_cases c0 : y > 0
  · have g0 : ((y : Int) > 0) = True := eq_true (Int.ofNat_lt.mpr c0)
    obtain ⟨u1, u2⟩ := wr_up y x w c0 hw6 hi36
    have hu : y * w + x - w < w * h := Nat.lt_of_le_of_lt (Nat.sub_le _ _) hi
    obtain ⟨o1, o2, o3⟩ := lt2_or hN ho hu
    have s3 : st3 w y (y * w + x) out = out ||| 2 ^ (y * w + x - w) := if_pos c0
    rw [s3] at H
    by_cases c1 : y + 1 < h
    · have g1 : (((y + 1 : Nat) : Int) < (h : Int)) = True := eq_true (Int.ofNat_lt.mpr c1)
      obtain ⟨p1, p2, p3⟩ := lt2_or hN o1 (dn c1)
      have s4 : st4 w h y (y * w + x) (out ||| 2 ^ (y * w + x - w)) = (out ||| 2 ^ (y * w + x - w)) ||| 2 ^ (y * w + x + w) := if_pos c1
      rw [s4] at H
      refine Ev.step (fun k => ?_) H
      simp only [spec_l08Near.j3, g0, if_true, e0, u1, nn_t, ey, g1, e1, o2, o3, p2, p3, ex]
    · have g1 : (((y + 1 : Nat) : Int) < (h : Int)) = False := eq_false (fun e => c1 (Int.ofNat_lt.mp e))
      have s4 : st4 w h y (y * w + x) (out ||| 2 ^ (y * w + x - w)) = out ||| 2 ^ (y * w + x - w) := if_neg c1
      rw [s4] at H
      refine Ev.step (fun k => ?_) H
      simp only [spec_l08Near.j3, g0, if_true, e0, u1, nn_t, ey, g1, if_false, o2, o3, ex]
  · have g0 : ((y : Int) > 0) = False := eq_false (fun e => c0 (Int.ofNat_lt.mp e))
    have s3 : st3 w y (y * w + x) out = out := if_neg c0
    rw [s3] at H
    by_cases c1 : y + 1 < h
    · have g1 : (((y + 1 : Nat) : Int) < (h : Int)) = True := eq_true (Int.ofNat_lt.mpr c1)
      obtain ⟨p1, p2, p3⟩ := lt2_or hN ho (dn c1)
      have s4 : st4 w h y (y * w + x) out = out ||| 2 ^ (y * w + x + w) := if_pos c1
      rw [s4] at H
      refine Ev.step (fun k => ?_) H
      simp only [spec_l08Near.j3, g0, if_false, e0, nn_t, ey, g1, if_true, e1, p2, p3, ex]
    · have g1 : (((y + 1 : Nat) : Int) < (h : Int)) = False := eq_false (fun e => c1 (Int.ofNat_lt.mp e))
      have s4 : st4 w h y (y * w + x) out = out := if_neg c1
      rw [s4] at H
      refine Ev.step (fun k => ?_) H
      simp only [spec_l08Near.j3, g0, if_false, ey, g1, ex]
theorem near_j2 (out x y : Nat) (hx : x < w) (hy : y < h) (ho : lt2 out (w * h)) (R : Int)
    (H : Ev (fun k => spec_l08Near.j3 k (w : Int) (h : Int) (M : Int) ((st2 w x (y * w + x) out : Nat) : Int) (y : Int) (x : Int)) R) :
    Ev (fun k => spec_l08Near.j2 k (w : Int) (h : Int) (M : Int) (out : Int) (y : Int) (x : Int)) R := by
  have hN : w * h ≤ 36 := Nat.mul_le_mul hw6 hh
  have hi := idx_lt hx hy
  have hi36 : y * w + x ≤ 36 := Nat.le_trans (Nat.le_of_lt hi) hN
  have rt : x + 1 < w → y * w + x + 1 < w * h := fun hxw => idx_lt (w := w) (h := h) (x := x + 1) (y := y) hxw hy
  have hx64 : x ≤ 140737488355328 := by omega
  have e0 := wr_ix y x w hi36
  obtain ⟨_, e2, _⟩ := wr_pm (y * w + x) w hi36 hw6
  have ex := w1 hx64
  by_cases c0 : x + 1 < w
  · have g0 : (((x + 1 : Nat) : Int) < (w : Int)) = True := eq_true (Int.ofNat_lt.mpr c0)
    obtain ⟨o1, o2, o3⟩ := lt2_or hN ho (rt c0)
    have s : st2 w x (y * w + x) out = out ||| 2 ^ (y * w + x + 1) := if_pos c0
    rw [s] at H
    refine Ev.step (fun k => ?_) H
    simp only [spec_l08Near.j2, ex, g0, if_true, e0, e2, nn_t, o2, o3]
  · have g0 : (((x + 1 : Nat) : Int) < (w : Int)) = False := eq_false (fun e => c0 (Int.ofNat_lt.mp e))
    have s : st2 w x (y * w + x) out = out := if_neg c0
    rw [s] at H
    refine Ev.step (fun k => ?_) H
    simp only [spec_l08Near.j2, ex, g0, if_false]
theorem st_lt (out x y : Nat) (hx : x < w) (hy : y < h) (ho : lt2 out (w * h)) : lt2 (st1 x (y * w + x) out) (w * h) ∧ lt2 (st2 w x (y * w + x) (st1 x (y * w + x) out)) (w * h) ∧ lt2 (st4 w h y (y * w + x) (st3 w y (y * w + x) (st2 w x (y * w + x) (st1 x (y * w + x) out)))) (w * h) := by
  have hi := idx_lt hx hy
  have a1 : lt2 (st1 x (y * w + x) out) (w * h) := by
    unfold st1
    split
    · exact lt2_or' ho (Nat.lt_of_le_of_lt (Nat.sub_le _ _) hi)
    · exact ho
  have a2 : lt2 (st2 w x (y * w + x) (st1 x (y * w + x) out)) (w * h) := by
    unfold st2
    split
    · rename_i c
      exact lt2_or' a1 (idx_lt (w := w) (h := h) (x := x + 1) (y := y) c hy)
    · exact a1
  have a3 : lt2 (st3 w y (y * w + x) (st2 w x (y * w + x) (st1 x (y * w + x) out))) (w * h) := by
    rw [st3]
    split
    · exact lt2_or' a2 (Nat.lt_of_le_of_lt (Nat.sub_le _ _) hi)
    · exact a2
  refine ⟨a1, a2, ?_⟩
  rw [st4]
  split
  · rename_i c
    have := idx_lt (w := w) (h := h) (x := x) (y := y + 1) hx c
    rw [Nat.add_mul, Nat.one_mul] at this
    exact lt2_or' a3 (by omega)
  · exact a3
theorem st_mono (out x y : Nat) (j : Nat) (hj : out.testBit j = true) : (st4 w h y (y * w + x) (st3 w y (y * w + x) (st2 w x (y * w + x) (st1 x (y * w + x) out)))).testBit j = true := by
  have o : ∀ a e, a.testBit j = true → (a ||| 2 ^ e).testBit j = true := fun a e ha => by rw [Nat.testBit_or, ha]; rfl
  have h1 : (st1 x (y * w + x) out).testBit j = true := by unfold st1; split; exact o _ _ hj; exact hj
  have h2 : (st2 w x (y * w + x) (st1 x (y * w + x) out)).testBit j = true := by rw [st2]; split; exact o _ _ h1; exact h1
  have h3 : (st3 w y (y * w + x) (st2 w x (y * w + x) (st1 x (y * w + x) out))).testBit j = true := by rw [st3]; split; exact o _ _ h2; exact h2
  rw [st4]; split; exact o _ _ h3; exact h3
theorem st_nbr (out x y : Nat) (hx : x < w) (b : Nat) (hb : nbr w h (y * w + x) b) : (st4 w h y (y * w + x) (st3 w y (y * w + x) (st2 w x (y * w + x) (st1 x (y * w + x) out)))).testBit b = true := by
  obtain ⟨d1, d2⟩ := dm w x y hx
  have o : ∀ a e, a.testBit b = true → (a ||| 2 ^ e).testBit b = true := fun a e ha => by rw [Nat.testBit_or, ha]; rfl
  have n : ∀ a e, e = b → (a ||| 2 ^ e).testBit b = true := fun a e ha => by rw [Nat.testBit_or, ha, Nat.testBit_two_pow_self, Bool.or_true]
  unfold nbr at hb
  rw [d1, d2] at hb
  have f4 : ∀ a, a.testBit b = true → (st4 w h y (y * w + x) a).testBit b = true := fun a ha => by unfold st4; split; exact o _ _ ha; exact ha
  have f3 : ∀ a, a.testBit b = true → (st3 w y (y * w + x) a).testBit b = true := fun a ha => by unfold st3; split; exact o _ _ ha; exact ha
  have f2 : ∀ a, a.testBit b = true → (st2 w x (y * w + x) a).testBit b = true := fun a ha => by unfold st2; split; exact o _ _ ha; exact ha
  rcases hb with ⟨h1, h2⟩ | ⟨h1, h2⟩ | ⟨h1, h2⟩ | ⟨h1, h2⟩
  · refine f4 _ (f3 _ (f2 _ ?_))
    unfold st1
    rw [if_pos h1]
    exact n _ _ (by rw [← h2]; rfl)
  · refine f4 _ (f3 _ ?_)
    rw [st2, if_pos h1]
    exact n _ _ h2.symm
  · refine f4 _ ?_
    rw [st3, if_pos h1]
    exact n _ _ (by rw [← h2]; exact Nat.add_sub_cancel _ _)
  · rw [st4, if_pos h1]
    exact n _ _ h2.symm
def NI (w h M out i : Nat) : Prop := lt2 out (w * h) ∧ (∀ j, M.testBit j = true → out.testBit j = true) ∧ ∀ c, c < i → M.testBit c = true → ∀ b, nbr w h c b → out.testBit b = true
theorem near_l1 (hM : M < 9223372036854775808) (y : Nat) (hy : y < h) (P : Nat → Prop) (d : Nat) : ∀ (x out : Nat), w - x = d → x ≤ w → NI w h M out (y * w + x) → (∀ out', NI w h M out' (y * w + w) → ∃ R : Nat, P R ∧ Ev (fun k => spec_l08Near.l0 k (w : Int) (h : Int) (M : Int) (out' : Int) ((y + 1 : Nat) : Int)) (R : Int)) → ∃ R : Nat, P R ∧ Ev (fun k => spec_l08Near.l1 k (w : Int) (h : Int) (M : Int) (out : Int) (y : Int) (x : Int)) (R : Int) := by
  have hN : w * h ≤ 36 := Nat.mul_le_mul hw6 hh
  induction d with
  | zero =>
    intro x out hd hx hI H
    have e : x = w := by omega
    subst e
    obtain ⟨R, hP, hR⟩ := H out hI
    refine ⟨R, hP, Ev.step (fun k => ?_) hR⟩
    simp only [spec_l08Near.l1, lt_f (Nat.le_refl x), if_false, w1 (show y ≤ 140737488355328 by omega)]
  | succ d ih =>
    intro x out hd hx hI H
    have hlt : x < w := by omega
    have hi := idx_lt hlt hy
    have hi36 : y * w + x ≤ 36 := Nat.le_trans (Nat.le_of_lt hi) hN
    have hd1 : w - (x + 1) = d := by omega
    have hx64 : x ≤ 140737488355328 := by omega
    have hi64 : y * w + x ≤ 64 := Nat.le_trans hi36 (by decide)
    have e0 := wr_ix y x w hi36
    have ex := w1 hx64
    by_cases hb : M.testBit (y * w + x) = true
    · obtain ⟨a1, a2, a4⟩ := st_lt hw hw6 hh out x y hlt hy hI.1
      obtain ⟨R, hP, hR⟩ := ih (x + 1) _ hd1 hlt ⟨a4, fun j hj => st_mono hw hw6 hh out x y j (hI.2.1 j hj), fun c hc hcb b hnb => by
        by_cases e : c = y * w + x
        · subst e
          exact st_nbr hw hw6 hh out x y hlt b hnb
        · exact st_mono hw hw6 hh out x y b (hI.2.2 c (Nat.lt_of_le_of_ne (Nat.le_of_lt_succ hc) e) hcb b hnb)⟩ H
      refine ⟨R, hP, ?_⟩
      have A := near_j2 hw hw6 hh (st1 x (y * w + x) out) x y hlt hy a1 _ (near_j3 hw hw6 hh _ x y hlt hy a2 _ hR)
      by_cases c0 : x > 0
      · have g0 : ((x : Int) > 0) = True := eq_true (Int.ofNat_lt.mpr c0)
        obtain ⟨_, _, e3⟩ := wr_pm (y * w + x) w hi36 hw6
        have e3' := e3 (Nat.lt_of_lt_of_le c0 (Nat.le_add_left _ _))
        obtain ⟨o1, o2, o3⟩ := lt2_or hN hI.1 (show y * w + x - 1 < w * h from Nat.lt_of_le_of_lt (Nat.sub_le _ _) hi)
        have s : st1 x (y * w + x) out = out ||| 2 ^ (y * w + x - 1) := if_pos c0
        rw [s] at A
        refine Ev.step (fun k => ?_) A
        simp only [spec_l08Near.l1, lt_t hlt, if_true, e0, nn_t, shr_nat M _ hi64, bit_nat M _ hM, hb, g0, e3', o2, o3]
        rfl
      · have g0 : ((x : Int) > 0) = False := eq_false (fun e => c0 (Int.ofNat_lt.mp e))
        have s : st1 x (y * w + x) out = out := if_neg c0
        rw [s] at A
        refine Ev.step (fun k => ?_) A
        simp only [spec_l08Near.l1, lt_t hlt, if_true, e0, nn_t, shr_nat M _ hi64, bit_nat M _ hM, hb, g0, if_false]
        rfl
    · obtain ⟨R, hP, hR⟩ := ih (x + 1) out hd1 hlt ⟨hI.1, hI.2.1, fun c hc hcb b hnb => by
        by_cases e : c = y * w + x
        · subst e
          exact absurd hcb hb
        · exact hI.2.2 c (Nat.lt_of_le_of_ne (Nat.le_of_lt_succ hc) e) hcb b hnb⟩ H
      refine ⟨R, hP, Ev.step (fun k => ?_) hR⟩
      simp only [spec_l08Near.l1, lt_t hlt, if_true, e0, nn_t, shr_nat M _ hi64, bit_nat M _ hM, hb, if_false, ex, Bool.false_eq_true]
theorem near_l0 (hM : M < 9223372036854775808) (d : Nat) : ∀ (y out : Nat), h - y = d → y ≤ h → NI w h M out (y * w) → ∃ R : Nat, NI w h M R (h * w) ∧ Ev (fun k => spec_l08Near.l0 k (w : Int) (h : Int) (M : Int) (out : Int) (y : Int)) (R : Int) := by
  induction d with
  | zero =>
    intro y out hd hy hI
    have e : y = h := by omega
    subst e
    refine ⟨out, hI, Ev.step (f := fun _ => some (out : Int)) (fun k => ?_) (Ev.now _)⟩
    simp only [spec_l08Near.l0, lt_f (Nat.le_refl y), if_false]
  | succ d ih =>
    intro y out hd hy hI
    have hlt : y < h := by omega
    obtain ⟨R, hP, hR⟩ := near_l1 hw hw6 hh hM y hlt (fun R => NI w h M R (h * w)) w 0 out rfl (Nat.zero_le _) hI (fun out' hI' => ih (y + 1) out' (by omega) hlt (by rw [Nat.add_mul, Nat.one_mul]; exact hI'))
    refine ⟨R, hP, Ev.step (fun k => ?_) hR⟩
    simp only [spec_l08Near.l0, lt_t hlt, if_true]
    rfl
end

def cnt (N M : Nat) : Nat := (cellsOf N M).length
theorem cnt_succ (N M : Nat) : cnt (N + 1) M = cnt N M + (if M.testBit N = true then 1 else 0) := by
  unfold cnt cellsOf
  rw [List.range'_concat, List.filter_append, List.length_append]
  congr 1
  rw [Nat.one_mul, Nat.zero_add]
  by_cases h : M.testBit N = true
  · simp [h]
  · simp [h]
theorem cnt_or (M c : Nat) (hc : M.testBit c = false) (N : Nat) : cnt N (M ||| 2 ^ c) = cnt N M + (if c < N then 1 else 0) := by
  induction N with
  | zero => simp [cnt, cellsOf]
  | succ N ih =>
    rw [cnt_succ, cnt_succ, ih, Nat.testBit_or, Nat.testBit_two_pow]
    by_cases e : c = N
    · subst e
      rw [hc]
      simp
    · rw [decide_eq_false e, Bool.or_false]
      by_cases h : c < N
      · rw [if_pos h, if_pos (show c < N + 1 by omega)]; omega
      · rw [if_neg h, if_neg (show ¬ c < N + 1 by omega)]; omega
theorem cnt_full (N M : Nat) (h : cnt N M < N) : ∃ c, c < N ∧ M.testBit c = false := by
  induction N with
  | zero => omega
  | succ N ih =>
    rw [cnt_succ] at h
    by_cases e : M.testBit N = true
    · rw [if_pos e] at h
      obtain ⟨c, h1, h2⟩ := ih (by omega)
      exact ⟨c, by omega, h2⟩
    · exact ⟨N, by omega, by simpa using e⟩
theorem bit_lt {M N j : Nat} (h : lt2 M N) (hj : M.testBit j = true) : j < N := by
  refine Decidable.byContradiction fun hn => ?_
  rw [Nat.testBit_lt_two_pow (Nat.lt_of_lt_of_le h (Nat.pow_le_pow_right (by omega) (by omega)))] at hj
  exact absurd hj (by simp)
theorem add_bit_i (N M c : Nat) (hN : N ≤ 36) (hM : lt2 M N) (hc : c < N) (hb : M.testBit c = false) : wrap64 ((M : Int) + shl .i64 1 (c : Int)) = ((M ||| 2 ^ c : Nat) : Int) := by
  have h1 := lt2_lt hN (lt2_or' hM hc)
  rw [shl_one c (by omega), ← Int.natCast_add, add_bit M c hb, w64n _ (by omega)]
section
variable {w h : Nat} (hw : 1 ≤ w) (hw6 : w ≤ 6) (hh : h ≤ 6)
include hw hw6 hh
theorem near_f (M : Nat) (hM : lt2 M (w * h)) : ∃ R : Nat, NI w h M R (h * w) ∧ Ev (fun k => spec_l08Near.f k (w : Int) (h : Int) (M : Int)) (R : Int) := by
  have hM' := lt2_lt (Nat.mul_le_mul hw6 hh) hM
  obtain ⟨R, h1, h2⟩ := near_l0 hw hw6 hh hM' h 0 M rfl (Nat.zero_le _) ⟨hM, fun j hj => hj, fun c hc => absurd hc (by rw [Nat.zero_mul]; exact Nat.not_lt_zero _)⟩
  exact ⟨R, h1, h2⟩
theorem open_free (M R : Nat) (hM : lt2 M (w * h)) (hM0 : M ≠ 0) (hR : NI w h M R (h * w)) (hc : cnt (w * h) M < w * h) : 0 < (cellsOf (w * h) (andn R M)).length := by
  have hN : w * h ≤ 36 := Nat.mul_le_mul hw6 hh
  obtain ⟨c0, g1, g2⟩ := cnt_full _ _ hc
  obtain ⟨c, b, g3, g4, g5⟩ := grid_open w h M hw hM0 hM c0 g1 g2
  have g6 := hR.2.2 c (by rw [Nat.mul_comm]; exact bit_lt hM g3) g3 b g4
  have hb := bit_lt hR.1 g6
  have hR' := lt2_lt hN hR.1
  have hM' := lt2_lt hN hM
  have : b ∈ cellsOf (w * h) (andn R M) := List.mem_filter.mpr ⟨List.mem_range'_1.mpr ⟨Nat.zero_le _, by omega⟩, by
    rw [testBit_andn _ _ _ (by omega) (by omega), g6, g5]; rfl⟩
  exact List.length_pos_of_mem this
variable {b : List Int} (hb : b.length ≤ 1048576)
include hb
theorem draw_l0 (cells : Int) (d : Nat) : ∀ (n M : Nat) (p z : Int), w * h - n = d → n ≤ w * h → lt2 M (w * h) → M ≠ 0 → cnt (w * h) M = n → (0 ≤ p ∧ p ≤ (b.length : Int)) → ∃ (M' : Nat) (p' z' : Int), (lt2 M' (w * h) ∧ M' ≠ 0) ∧ Ev (fun k => spec_l08Draw.l0 k (w : Int) (h : Int) cells (M : Int) (n : Int) b p z) ((M' : Int), p', z') ∧ 0 ≤ p' ∧ p' ≤ (b.length : Int) := by
  have hN : w * h ≤ 36 := Nat.mul_le_mul hw6 hh
  have hwh : wrap64 ((w : Int) * (h : Int)) = ((w * h : Nat) : Int) := (full_free w h hw6 hh).1
  induction d with
  | zero =>
    intro n M p z hd hn hM hM0 hc hp
    refine ⟨M, p, z, ⟨hM, hM0⟩, ?_, hp⟩
    have e : n = w * h := by omega
    refine Ev.step (f := fun k => spec_l08Draw.j1 k (w : Int) (h : Int) cells (M : Int) (n : Int) false b p z) (fun k => ?_) (Ev.step (f := fun _ => some ((M : Int), p, z)) (fun k => ?_) (Ev.now _))
    · have hf : decide ((n : Int) < ((w * h : Nat) : Int)) = false := decide_eq_false (by omega)
      simp only [spec_l08Draw.l0, hwh, hf, ite_self]
    · simp only [spec_l08Draw.j1, Bool.false_eq_true, if_false]
  | succ d ih =>
    intro n M p z hd hn hM hM0 hc hp
    by_cases hcell : (n : Int) < cells
    · have hlt : n < w * h := by omega
      obtain ⟨R, hR, eR⟩ := near_f hw hw6 hh M hM
      have hpos := open_free hw hw6 hh M R hM hM0 hR (by omega)
      obtain ⟨cf1, cf2, cf3⟩ := cellsOf_facts (w * h) (andn R M) hN
      have hR' := lt2_lt hN hR.1
      have hM' := lt2_lt hN hM
      have eA := i64_andNot R M hR' hM'
      have eC := l08Cells_f w h (andn R M) hw hw6 hh (off_lt2 hR.1)
      have hlen : ((((cellsOf (w * h) (andn R M)).map (ptOf w)).length : Nat) : Int) = ((cellsOf (w * h) (andn R M)).length : Int) := by rw [List.length_map]
      obtain ⟨x, p1, z1, eB, hx, hp1⟩ := below_f hb p z (((cellsOf (w * h) (andn R M)).length : Nat) : Int) hp (by omega)
      obtain ⟨i, rfl⟩ := Int.eq_ofNat_of_zero_le hx.1
      have hi : i < (cellsOf (w * h) (andn R M)).length := by omega
      have hcb : ((cellsOf (w * h) (andn R M))[i]) < w * h := cf1 _ (List.getElem_mem hi)
      have hbit := (List.mem_filter.mp (List.getElem_mem hi)).2
      have er : rd_T46 ((cellsOf (w * h) (andn R M)).map (ptOf w)) (i : Int) = ptOf w (cellsOf (w * h) (andn R M))[i] := by rw [rdP_get _ i (by rw [List.length_map]; exact hi), List.getElem_map]
      generalize (cellsOf (w * h) (andn R M))[i] = c at hcb hbit er
      have hMc : M.testBit c = false := by
        rw [testBit_andn _ _ _ (by omega) (by omega), Bool.and_eq_true] at hbit
        simpa using hbit.2
      have ecw : c / w * w + c % w = c := by rw [Nat.mul_comm]; exact Nat.div_add_mod c w
      have ei := wr_ix (c / w) (c % w) w (by rw [ecw]; omega)
      rw [ecw] at ei
      have eS := add_bit_i (w * h) M c hN hM hcb hMc
      have h0 : M ||| 2 ^ c ≠ 0 := fun e => by
        have := congrArg (Nat.testBit · c) e
        simp [Nat.testBit_or, Nat.testBit_two_pow_self] at this
      have hcn : cnt (w * h) (M ||| 2 ^ c) = n + 1 := by rw [cnt_or M c hMc, if_pos hcb, hc]
      have hn1 : w * h - (n + 1) = d := by omega
      have hn64 := w1 (show n ≤ 140737488355328 by clear eS ei; omega)
      obtain ⟨M', p', z', f1, f2, f3⟩ := ih (n + 1) (M ||| 2 ^ c) p1 z1 hn1 hlt (lt2_or' hM hcb) h0 hcn hp1
      refine ⟨M', p', z', f1, ?_, f3⟩
      have ht : decide ((n : Int) < ((w * h : Nat) : Int)) = true := decide_eq_true (Int.ofNat_lt.mpr hlt)
      refine Ev.step (f := fun k => spec_l08Draw.j1 k (w : Int) (h : Int) cells (M : Int) (n : Int) true b p z) (fun k => ?_) ?_
      · simp only [spec_l08Draw.l0, hwh, ht, hcell, if_true]
      refine Ev.step (f := fun k => (spec_l08Near.f k (w : Int) (h : Int) (M : Int)).bind fun t126 => ((spec_l08Cells.f k (w : Int) (Go.bits .andNot .i64 t126 (M : Int))).bind fun t127 => ((spec_l01Below.f b p z (t127.length : Int)).bind fun bt130 => (if 0 ≤ bt130.1 then (if bt130.1 < (t127.length : Int) then (if 0 ≤ (wrap64 ((wrap64 (((rd_T46 t127 bt130.1).f1) * (w : Int))) + ((rd_T46 t127 bt130.1).f0))) then (spec_l08Draw.l0 k (w : Int) (h : Int) cells (wrap64 ((M : Int) + (shl .i64 1 (wrap64 ((wrap64 (((rd_T46 t127 bt130.1).f1) * (w : Int))) + ((rd_T46 t127 bt130.1).f0)))))) (wrap64 ((n : Int) + 1)) b bt130.2.1 bt130.2.2) else (none)) else (none)) else (none))))) (fun k => ?_) ?_
      · simp only [spec_l08Draw.j1, if_true]
      refine Ev.bind eR ?_
      rw [eA]
      refine Ev.bind eC ?_
      rw [hlen, eB]
      have hil : ((i : Int) < ((cellsOf (w * h) (andn R M)).length : Int)) = True := eq_true (Int.ofNat_lt.mpr hi)
      simp only [Option.bind_some, nn_t, hil, if_true, er, ptOf, ei, eS, hn64]
      exact f2
    · refine ⟨M, p, z, ⟨hM, hM0⟩, ?_, hp⟩
      refine Ev.step (f := fun k => spec_l08Draw.j1 k (w : Int) (h : Int) cells (M : Int) (n : Int) false b p z) (fun k => ?_) (Ev.step (f := fun _ => some ((M : Int), p, z)) (fun k => ?_) (Ev.now _))
      · simp only [spec_l08Draw.l0, hcell, if_false]
      · simp only [spec_l08Draw.j1, Bool.false_eq_true, if_false]
theorem draw_f (h1 : 1 ≤ h) (cells : Int) (p z : Int) (hp : 0 ≤ p ∧ p ≤ (b.length : Int)) : ∃ (M' : Nat) (p' z' : Int), (lt2 M' (w * h) ∧ M' ≠ 0) ∧ Ev (fun k => spec_l08Draw.f k b p z (w : Int) (h : Int) cells) ((M' : Int), p', z') ∧ 0 ≤ p' ∧ p' ≤ (b.length : Int) := by
  have hN : w * h ≤ 36 := Nat.mul_le_mul hw6 hh
  have hN1 : 1 * 1 ≤ w * h := Nat.mul_le_mul hw h1
  have hwh : wrap64 ((w : Int) * (h : Int)) = ((w * h : Nat) : Int) := (full_free w h hw6 hh).1
  obtain ⟨x, p1, z1, eB, hx, hp1⟩ := below_f hb p z (((w * h : Nat) : Nat) : Int) hp (by omega)
  obtain ⟨c, rfl⟩ := Int.eq_ofNat_of_zero_le hx.1
  have hc : c < w * h := by omega
  have e0 : (0 : Nat) ||| 2 ^ c = 2 ^ c := Nat.zero_or _
  have l2 : lt2 (2 ^ c) (w * h) := by have := lt2_or' (lt2_zero (w * h)) hc; rwa [e0] at this
  have cn : cnt (w * h) (2 ^ c) = 1 := by
    have := cnt_or 0 c (by simp) (w * h)
    rw [e0, if_pos hc] at this
    rw [this]
    simp [cnt, cellsOf]
  obtain ⟨M', p', z', f1, f2, f3⟩ := draw_l0 hw hw6 hh hb cells (w * h - 1) 1 (2 ^ c) p1 z1 rfl (by omega) l2 (Nat.ne_of_gt (Nat.pow_pos (by omega))) cn hp1
  refine ⟨M', p', z', f1, ?_, f3⟩
  unfold spec_l08Draw.f
  have hs := shl_one c (by omega)
  simp only [hwh, eB, Option.bind_some, nn_t, if_true, hs]
  exact f2
end

theorem mvP_zero (L : List S46) : L.map (mvP 0) = L := map_id' _ _ (fun q _ => by simp [mvP])
theorem mvM0_ok (w h M : Nat) (hw : 1 ≤ w) (hM : M ≠ 0) (hl : lt2 M (w * h)) : (mvM w h M 0).2 = true := by
  have p4 := pts_pos w (w * h) M hM hl
  unfold mvM movedL
  rw [mvP_zero]
  refine putI_ok w h _ 0 fun q hq => ?_
  obtain ⟨p, hp, rfl⟩ := List.mem_map.mp hq
  have hnn : ∀ q ∈ (cellsOf (w * h) M).map (ptOf w), 0 ≤ q.f0 ∧ 0 ≤ q.f1 := fun q hq => by
    obtain ⟨c, _, rfl⟩ := List.mem_map.mp hq
    exact ⟨Int.natCast_nonneg _, Int.natCast_nonneg _⟩
  have e0 : rd_T46 ((cellsOf (w * h) M).map (ptOf w)) 0 = ((cellsOf (w * h) M).map (ptOf w))[0] := rdP_get _ 0 p4
  have hn0 := hnn _ (List.getElem_mem p4)
  have g3 : 0 ≤ (lowOf ((cellsOf (w * h) M).map (ptOf w))).1 ∧ 0 ≤ (lowOf ((cellsOf (w * h) M).map (ptOf w))).2 := low_ge ((cellsOf (w * h) M).map (ptOf w)) (rd_T46 ((cellsOf (w * h) M).map (ptOf w)) 0).f0 (rd_T46 ((cellsOf (w * h) M).map (ptOf w)) 0).f1 (by rw [e0]; exact hn0.1) (by rw [e0]; exact hn0.2) hnn
  generalize lowOf ((cellsOf (w * h) M).map (ptOf w)) = o at g3
  obtain ⟨c, hc, rfl⟩ := List.mem_map.mp hp
  have hcN : c < w * h := bit_lt hl (List.mem_filter.mp hc).2
  have hx := Nat.mod_lt c (show 0 < w from hw)
  have hy : c / w < h := Nat.div_lt_of_lt_mul hcN
  simp only [subP, ptOf]
  omega
section
variable {w h : Nat} (hw : 1 ≤ w) (hw6 : w ≤ 6) (h1 : 1 ≤ h) (hh : h ≤ 6) {b : List Int} (hb : b.length ≤ 1048576)
include hw hw6 h1 hh
theorem put0_f (M : Nat) (hM : M ≠ 0) (hl : lt2 M (w * h)) : Ev (fun k => spec_l08Put.f k (w : Int) (h : Int) ((cellsOf (w * h) M).map (ptOf w))) (((mvM w h M 0).1 : Int), (mvM w h M 0).2) := by
  have hN : w * h ≤ 36 := Nat.mul_le_mul hw6 hh
  obtain ⟨p1, p2, p3⟩ := pts_facts w (w * h) M hN
  have A := l08Put_f w h 0 hN ((cellsOf (w * h) M).map (ptOf w)) (pts_pos w (w * h) M hM hl) (by omega) p1 p2
  rw [mvP_zero] at A
  exact A
include hb
theorem drawl_l0 (d : Nat) : ∀ (ns : List Nat) (p z : Int), ns.length + d ≤ 3 → (∀ M ∈ ns, lt2 M (w * h) ∧ M ≠ 0) → (0 ≤ p ∧ p ≤ (b.length : Int)) → ∃ (ns' : List Nat) (p' z' : Int), (ns'.length ≤ 3 ∧ ∀ M ∈ ns', lt2 M (w * h) ∧ M ≠ 0) ∧ Ev (fun k => spec_l17Draw.l0 k (w : Int) (h : Int) (ns.map Int.ofNat) (d : Int) b p z) ((w : Int), (h : Int), ns'.map Int.ofNat, p', z') ∧ 0 ≤ p' ∧ p' ≤ (b.length : Int) := by
  induction d with
  | zero =>
    intro ns p z hd hns hp
    refine ⟨ns, p, z, ⟨by omega, hns⟩, Ev.step (f := fun _ => some ((w : Int), (h : Int), ns.map Int.ofNat, p, z)) (fun k => ?_) (Ev.now _), hp⟩
    simp [spec_l17Draw.l0]
  | succ d ih =>
    intro ns p z hd hns hp
    obtain ⟨x, p1, z1, eB, hx, hp1⟩ := below_f hb p z 4 hp (by omega)
    obtain ⟨M, p2, z2, hM, eD, hp2⟩ := draw_f hw hw6 hh hb h1 (wrap64 (1 + x)) p1 z1 hp1
    have hlen1 : ns.length + 1 + d ≤ 3 := by omega
    have hl : (List.length (ns.map Int.ofNat) < 17592186044416) = True := eq_true (by rw [List.length_map]; omega)
    have hd1 : wrap64 (((d + 1 : Nat) : Int) - 1) = (d : Int) := by rw [w64 (by omega) (by omega)]; omega
    have hp0 : (((d + 1 : Nat) : Int) > 0) = True := eq_true (by omega)
    have hok := mvM0_ok w h M hw hM.2 hM.1
    obtain ⟨c1, c2⟩ := mvM_corner w h M 0 hw hw6 hh hM.2 hM.1 hok
    have hC := mvM_lt w h M 0 hw6 hh hM.2 hM.1
    obtain ⟨ns', p', z', f1, f2, f3⟩ := ih (ns ++ [(mvM w h M 0).1]) p2 z2 (by rw [List.length_append, List.length_singleton]; exact hlen1) (fun N hN => by
      rcases List.mem_append.mp hN with hN | hN
      · exact hns N hN
      · rw [List.mem_singleton.mp hN]; exact ⟨hC, c1⟩) hp2
    refine ⟨ns', p', z', f1, ?_, f3⟩
    rw [List.map_append] at f2
    refine Ev.step (f := fun k => (spec_l08Draw.f k b p1 z1 (w : Int) (h : Int) (wrap64 (1 + x))).bind fun bt167 => ((spec_l08Cells.f k (w : Int) bt167.1).bind fun t170 => ((spec_l08Put.f k (w : Int) (h : Int) t170).bind fun bt173 => (spec_l17Draw.l0 k (w : Int) (h : Int) ((ns.map Int.ofNat) ++ [bt173.1]) (d : Int) b bt167.2.1 bt167.2.2)))) (fun k => ?_) ?_
    · rw [spec_l17Draw.l0, if_pos (of_eq_true hp0), eB, Option.bind_some]
      simp only [hl, if_true, hd1]
    · exact Ev.bind eD (Ev.bind (l08Cells_f w h M hw hw6 hh hM.1) (Ev.bind (put0_f hw hw6 h1 hh M hM.2 hM.1) f2))
theorem makeShape_f : ∃ M : Nat, (lt2 M (w * h) ∧ M ≠ 0) ∧ Ev (fun k => spec_MakeShape.f k b 40 (w : Int) (h : Int) 4) (M : Int) := by
  obtain ⟨p, z, e0, hp⟩ := l31_f hb 40 (by omega)
  obtain ⟨x, p1, z1, eB, hx, hp1⟩ := below_f hb p z 4 hp (by omega)
  obtain ⟨M, p2, z2, hM, eD, hp2⟩ := draw_f hw hw6 hh hb h1 (wrap64 (1 + x)) p1 z1 hp1
  refine ⟨M, hM, ?_⟩
  unfold spec_MakeShape.f
  refine Ev.bind e0 ?_
  have H : Ev (fun k => (spec_l08Draw.f k b p1 z1 (w : Int) (h : Int) (wrap64 (1 + x))).bind fun bt312 => some bt312.1) (M : Int) := Ev.bind eD (Ev.now _)
  refine Ev.congr (fun k => ?_) H
  rw [eB, Option.bind_some]
end
theorem makeShapes_f {b : List Int} (hb : b.length ≤ 1048576) : ∃ (W H : Nat) (ns : List Nat), (2 ≤ W ∧ W ≤ 4 ∧ 2 ≤ H ∧ H ≤ 4 ∧ ns.length ≤ 3 ∧ ∀ M ∈ ns, lt2 M (W * H) ∧ M ≠ 0) ∧ Ev (fun k => spec_MakeShapes.f k b 0 3) ((W : Int), (H : Int), ns.map Int.ofNat) := by
  obtain ⟨p, z, e0, hp⟩ := l31_f hb 0 (by omega)
  obtain ⟨x, p1, z1, eB1, hx, hp1⟩ := below_f hb p z 3 hp (by omega)
  obtain ⟨y, p2, z2, eB2, hy, hp2⟩ := below_f hb p1 z1 3 hp1 (by omega)
  obtain ⟨n, p3, z3, eB3, hn, hp3⟩ := below_f hb p2 z2 4 hp2 (by omega)
  obtain ⟨X, rfl⟩ := Int.eq_ofNat_of_zero_le hx.1
  obtain ⟨Y, rfl⟩ := Int.eq_ofNat_of_zero_le hy.1
  obtain ⟨d, rfl⟩ := Int.eq_ofNat_of_zero_le hn.1
  obtain ⟨ns, p', z', f1, f2, _⟩ := drawl_l0 (w := 2 + X) (h := 2 + Y) (by omega) (by omega) (by omega) (by omega) hb d [] p3 z3 (by simp; omega) (by simp) hp3
  refine ⟨2 + X, 2 + Y, ns, ⟨by omega, by omega, by omega, by omega, f1⟩, ?_⟩
  have eX : wrap64 (2 + (X : Int)) = ((2 + X : Nat) : Int) := by rw [w64 (by omega) (by omega)]; omega
  have eY : wrap64 (2 + (Y : Int)) = ((2 + Y : Nat) : Int) := by rw [w64 (by omega) (by omega)]; omega
  have e4 : wrap64 ((3 : Int) + 1) = 4 := by rw [w64 (by omega) (by omega)]; rfl
  unfold spec_MakeShapes.f
  refine Ev.bind e0 ?_
  unfold spec_l17Draw.f
  simp only [eB1, Option.bind_some, eB2, e4, eB3, eX, eY]
  exact Ev.bind f2 (Ev.now _)
theorem makeSize_f {b : List Int} (hb : b.length ≤ 1048576) : ∃ t : Int, Ev (fun k => spec_MakeSize.f k b 30 0 1) t := by
  obtain ⟨p, z, e0, hp⟩ := l31_f hb 30 (by omega)
  obtain ⟨x, p1, z1, eB, hx, hp1⟩ := below_f hb p z 2 hp (by omega)
  obtain ⟨n, rfl⟩ := Int.eq_ofNat_of_zero_le hx.1
  have last : ∀ (d : Nat) (o : Int), d ≤ 2 → ∃ t : Int, Ev (fun k => spec_MakeSize.l1 k o (d : Int)) t := by
    intro d
    induction d with
    | zero => intro o _; exact ⟨o, Ev.step (f := fun _ => some o) (fun k => by simp [spec_MakeSize.l1]) (Ev.now _)⟩
    | succ d ih =>
      intro o hd
      obtain ⟨t, ht⟩ := ih (wrap64 (o + 1)) (by omega)
      have hd1 : wrap64 (((d + 1 : Nat) : Int) - 1) = (d : Int) := by rw [w64 (by omega) (by omega)]; omega
      have hp0 : (((d + 1 : Nat) : Int) > 0) = True := eq_true (by omega)
      exact ⟨t, Ev.step (fun k => by simp only [spec_MakeSize.l1, hp0, if_true, hd1]) ht⟩
  obtain ⟨t, ht⟩ := last n 0 (by omega)
  refine ⟨t, ?_⟩
  unfold spec_MakeSize.f
  refine Ev.step (f := fun k => spec_MakeSize.l0 k b 30 0 1 2 1) (fun k => ?_) ?_
  · simp [spec_MakeSize.l0, show wrap64 ((1 : Int) + 1) = 2 by rw [w64 (by omega) (by omega)]; rfl, show wrap64 (2 : Int) = 2 by rw [w64 (by omega) (by omega)], show wrap64 (1 : Int) = 1 by rw [w64 (by omega) (by omega)]]
  refine Ev.step (f := fun k => spec_MakeSize.j1 k b 30 0 2) (fun k => by simp [spec_MakeSize.l0]) ?_
  refine Ev.step (f := fun k => (spec_l31New.f k b 30).bind fun bt192 => ((spec_l01Below.f bt192.1 bt192.2.1 bt192.2.2 2).bind fun bt196 => (spec_MakeSize.l1 k 0 bt196.1))) (fun k => by simp only [spec_MakeSize.j1]) ?_
  refine Ev.bind e0 ?_
  simp only [eB, Option.bind_some]
  exact ht

theorem cnt_half (M : Nat) (N : Nat) : cnt (N + 1) M = M % 2 + cnt N (M / 2) := by
  have h0 : (if M.testBit 0 = true then 1 else 0) = M % 2 := by
    rw [Nat.testBit_zero]
    rcases Nat.mod_two_eq_zero_or_one M with h | h <;> simp [h]
  induction N with
  | zero => rw [cnt_succ, h0]; simp [cnt, cellsOf]
  | succ N ih => rw [cnt_succ, ih, cnt_succ N (M / 2), Nat.testBit_succ]; omega
theorem laws_cells_l (N : Nat) (hN : N ≤ 36) : ∀ (M n : Nat), M < 2 ^ N → n + N ≤ 100 → Ev (fun k => laws_cells.l0 k (M : Int) (n : Int)) ((n + cnt N M : Nat) : Int) := by
  have stop : ∀ (n : Nat), Ev (fun k => laws_cells.l0 k ((0 : Nat) : Int) (n : Int)) (n : Int) := fun n =>
    Ev.step (f := fun _ => some (n : Int)) (fun k => by simp [laws_cells.l0]) (Ev.now _)
  induction N with
  | zero =>
    intro M n hM hn
    have e : M = 0 := by simpa using hM
    subst e
    exact stop n
  | succ N ih =>
    intro M n hM hn
    by_cases h0 : M = 0
    · subst h0
      have e : cnt (N + 1) 0 = 0 := by simp [cnt, cellsOf]
      rw [e]
      exact stop n
    · have hlt : M < 9223372036854775808 := lt2_lt hN hM
      have h2 : M / 2 < 2 ^ N := by rw [Nat.pow_succ] at hM; omega
      have hm := Nat.mod_lt M (show 0 < 2 by decide)
      have hw : wrap64 ((n : Int) + ((M % 2 : Nat) : Int)) = ((n + M % 2 : Nat) : Int) := by rw [← Int.natCast_add]; exact w64n _ (by omega)
      have A := ih (by omega) (M / 2) (n + M % 2) h2 (by omega)
      rw [cnt_half, ← Nat.add_assoc]
      refine Ev.step (fun k => ?_) A
      have hp : ((M : Int) > 0) = True := eq_true (by omega)
      have ha : Go.bits .and .i64 (M : Int) 1 = ((M % 2 : Nat) : Int) := by
        have := i64_and M 1 hlt (by decide)
        rw [Nat.and_one_is_mod] at this
        exact this
      have hd : (M : Int) / 2 = ((M / 2 : Nat) : Int) := rfl
      simp only [laws_cells.l0, hp, if_true, ha, hw, hd]
theorem laws_cells_f (N M : Nat) (hN : N ≤ 36) (hM : lt2 M N) : Ev (fun k => laws_cells.f k (M : Int)) ((cnt N M : Nat) : Int) := by
  have := laws_cells_l N hN M 0 hM (by omega)
  rw [Nat.zero_add] at this
  exact this
theorem sub_len {α : Type} [BEq α] [LawfulBEq α] (a : List α) : ∀ b : List α, a.Pairwise (· ≠ ·) → (∀ x ∈ a, x ∈ b) → a.length ≤ b.length := by
  induction a with
  | nil => intro b _ _; exact Nat.zero_le _
  | cons x r ih =>
    intro b hd hs
    have hx := hs x (by simp)
    rw [List.pairwise_cons] at hd
    have := ih (b.erase x) hd.2 (fun y hy => (List.mem_erase_of_ne (fun e => hd.1 y hy e.symm)).mpr (hs y (by simp [hy])))
    rw [List.length_erase_of_mem hx] at this
    have := List.length_pos_of_mem hx
    rw [List.length_cons]
    omega
theorem asc_extN (a b : List Nat) (ha : a.Pairwise (· < ·)) (hb : b.Pairwise (· < ·)) (h : ∀ z, z ∈ a ↔ z ∈ b) : a = b := by
  have A := asc_ext (a.map Int.ofNat) (b.map Int.ofNat) (List.pairwise_map.mpr (ha.imp fun h => Int.ofNat_lt.mpr h)) (List.pairwise_map.mpr (hb.imp fun h => Int.ofNat_lt.mpr h)) (fun z => by
    rw [List.mem_map, List.mem_map]
    constructor
    · rintro ⟨c, hc, rfl⟩; exact ⟨c, (h c).mp hc, rfl⟩
    · rintro ⟨c, hc, rfl⟩; exact ⟨c, (h c).mpr hc, rfl⟩)
  exact (List.map_inj_right (fun _ _ e => Int.ofNat.inj e)).mp A
theorem mem_cells {N M c : Nat} : c ∈ cellsOf N M ↔ c < N ∧ M.testBit c = true := by
  unfold cellsOf
  rw [List.mem_filter, List.mem_range'_1]
  constructor
  · rintro ⟨h1, h2⟩; exact ⟨by omega, h2⟩
  · rintro ⟨h1, h2⟩; exact ⟨by omega, h2⟩
theorem tryS_bits (w h F x y : Nat) (cs : List Nat) (b : Nat) : ∀ a, tryS w h F x y cs a = some b → (∀ c ∈ cs, c % w + x < w ∧ c / w + y < h) ∧ ∀ j, b.testBit j = true ↔ a.testBit j = true ∨ ∃ c ∈ cs, c + (y * w + x) = j := by
  induction cs with
  | nil => intro a e; rw [tryS, Option.some.injEq] at e; subst e; exact ⟨by simp, fun j => by simp⟩
  | cons c r ih =>
    intro a e
    rw [tryS] at e
    by_cases c0 : c % w + x ≥ w
    · rw [if_pos c0] at e; exact absurd e (by simp)
    · by_cases c1 : c / w + y ≥ h
      · rw [if_neg c0, if_pos c1] at e; exact absurd e (by simp)
      · by_cases c2 : F.testBit ((c / w + y) * w + c % w + x) = true
        · rw [if_neg c0, if_neg c1, if_pos c2] at e
          obtain ⟨h1, h2⟩ := ih _ e
          refine ⟨fun d hd => ?_, fun j => ?_⟩
          · rcases List.mem_cons.mp hd with rfl | hd
            · exact ⟨Nat.lt_of_not_le c0, Nat.lt_of_not_le c1⟩
            · exact h1 d hd
          · rw [h2, Nat.testBit_or, Bool.or_eq_true, Nat.testBit_two_pow, decide_eq_true_eq, place]
            constructor
            · rintro ((a1 | a1) | ⟨p, hp, a1⟩)
              · exact .inl a1
              · exact .inr ⟨c, by simp, a1⟩
              · exact .inr ⟨p, by simp [hp], a1⟩
            · rintro (a1 | ⟨p, hp, a1⟩)
              · exact .inl (.inl a1)
              · rcases List.mem_cons.mp hp with rfl | hp
                · exact .inl (.inr a1)
                · exact .inr ⟨p, hp, a1⟩
        · rw [if_neg c0, if_neg c1, if_neg c2] at e; exact absurd e (by simp)
theorem cells_shift (w h F x y C b : Nat) (e : tryS w h F x y (cellsOf (w * h) C) 0 = some b) (hN : w * h ≤ 36) : cellsOf (w * h) b = (cellsOf (w * h) C).map (· + (y * w + x)) := by
  obtain ⟨h1, h2⟩ := tryS_bits w h F x y _ b 0 e
  refine asc_extN _ _ (cellsOf_facts (w * h) b hN).2.2 (List.pairwise_map.mpr ((cellsOf_facts (w * h) C hN).2.2.imp fun hlt => Nat.add_lt_add_right hlt _)) fun j => ?_
  rw [mem_cells, h2, List.mem_map]
  constructor
  · rintro ⟨_, a1 | a1⟩
    · simp at a1
    · exact a1
  · rintro ⟨c, hc, rfl⟩
    refine ⟨?_, .inr ⟨c, hc, rfl⟩⟩
    obtain ⟨g1, g2⟩ := h1 c hc
    have := idx_lt g1 g2
    rw [← Nat.add_assoc, place] at this
    exact this
def addP (o : Int × Int) (q : S46) : S46 := ⟨q.f0 + o.1, q.f1 + o.2⟩
theorem low_add (o : Int × Int) (L : List S46) : ∀ a b : Int, (L.map (addP o)).foldl lowF (a + o.1, b + o.2) = ((L.foldl lowF (a, b)).1 + o.1, (L.foldl lowF (a, b)).2 + o.2) := by
  induction L with
  | nil => intro a b; rfl
  | cons q r ih =>
    intro a b
    rw [List.map_cons, List.foldl_cons, List.foldl_cons]
    have e1 : lowF (a + o.1, b + o.2) (addP o q) = (mn a q.f0 + o.1, mn b q.f1 + o.2) := by
      simp only [lowF, addP, Prod.mk.injEq]
      constructor
      · unfold mn; split <;> split <;> omega
      · unfold mn; split <;> split <;> omega
    rw [e1, ih]
    rfl
theorem movedL_add (o : Int × Int) (L : List S46) (h0 : 0 < L.length) : movedL 0 (L.map (addP o)) = movedL 0 L := by
  unfold movedL
  rw [mvP_zero, mvP_zero]
  have e : rd_T46 (L.map (addP o)) 0 = addP o (rd_T46 L 0) := by
    have e1 : rd_T46 (L.map (addP o)) 0 = (L.map (addP o))[0]'(by rw [List.length_map]; exact h0) := rdP_get _ 0 (by rw [List.length_map]; exact h0)
    have e2 : rd_T46 L 0 = L[0] := rdP_get _ 0 h0
    rw [e1, e2, List.getElem_map]
  have el : lowOf (L.map (addP o)) = ((lowOf L).1 + o.1, (lowOf L).2 + o.2) := by
    unfold lowOf
    rw [e]
    exact low_add o L _ _
  rw [el, List.map_map]
  refine List.map_congr_left fun q _ => ?_
  simp only [Function.comp, subP, addP, S46.mk.injEq]
  constructor <;> omega
theorem mv_shift (w h F x y C b : Nat) (hC : C ≠ 0) (hl : lt2 C (w * h)) (e : tryS w h F x y (cellsOf (w * h) C) 0 = some b) (hN : w * h ≤ 36) : mvM w h b 0 = mvM w h C 0 ∧ cnt (w * h) b = cnt (w * h) C := by
  have hs := cells_shift w h F x y C b e hN
  obtain ⟨h1, _⟩ := tryS_bits w h F x y _ b 0 e
  constructor
  · unfold mvM
    have em : (cellsOf (w * h) b).map (ptOf w) = ((cellsOf (w * h) C).map (ptOf w)).map (addP ((x : Int), (y : Int))) := by
      rw [hs, List.map_map, List.map_map]
      refine List.map_congr_left fun c hc => ?_
      obtain ⟨g1, g2⟩ := h1 c hc
      obtain ⟨d1, d2⟩ := dm w (c % w + x) (c / w + y) g1
      rw [← Nat.add_assoc, place] at d1 d2
      simp only [Function.comp, ptOf, addP, d1, d2, S46.mk.injEq]
      constructor <;> omega
    rw [em, movedL_add _ _ (pts_pos w (w * h) C hC hl)]
  · unfold cnt
    rw [hs, List.length_map]
theorem mv_cnt (w h M m : Nat) (hw6 : w ≤ 6) (hh : h ≤ 6) (hM : M ≠ 0) (hl : lt2 M (w * h)) (hok : (mvM w h M m).2 = true) : cnt (w * h) (mvM w h M m).1 = cnt (w * h) M := by
  have hN : w * h ≤ 36 := Nat.mul_le_mul hw6 hh
  obtain ⟨p1, p2, p3⟩ := pts_facts w (w * h) M hN
  have p4 := pts_pos w (w * h) M hM hl
  obtain ⟨q1, q2, q3⟩ := movedL_facts m _ p4 p1 p2
  have hlt := mvM_lt w h M m hw6 hh hM hl
  have e : putI w h (movedL m ((cellsOf (w * h) M).map (ptOf w))) 0 = ((mvM w h M m).1, true) := by
    rw [← hok]; rfl
  generalize (mvM w h M m).1 = C at e hlt ⊢
  have ec : cnt (w * h) M = (movedL m ((cellsOf (w * h) M).map (ptOf w))).length := by rw [q3, List.length_map]; rfl
  rw [ec]
  generalize movedL m ((cellsOf (w * h) M).map (ptOf w)) = Q at e q1 q2
  obtain ⟨r1, r2⟩ := putI_true w h Q C 0 e
  have nd1 : (cellsOf (w * h) C).Pairwise (· ≠ ·) := (cellsOf_facts (w * h) C hN).2.2.imp fun h => Nat.ne_of_lt h
  have nd2 : (Q.map (idx w)).Pairwise (· ≠ ·) := by
    refine List.pairwise_map.mpr (List.Pairwise.imp_of_mem ?_ q2)
    intro a b ha hb hne e
    refine hne ?_
    rw [← pt_idx w a (q1 a ha) (r1 a ha).1, ← pt_idx w b (q1 b hb) (r1 b hb).1, e]
  have le1 := sub_len (cellsOf (w * h) C) (Q.map (idx w)) nd1 (fun j hj => by
    rcases (r2 j).mp (mem_cells.mp hj).2 with a1 | ⟨q, hq, a1⟩
    · simp at a1
    · exact List.mem_map.mpr ⟨q, hq, a1⟩)
  have le2 := sub_len (Q.map (idx w)) (cellsOf (w * h) C) nd2 (fun j hj => by
    obtain ⟨q, hq, rfl⟩ := List.mem_map.mp hj
    have := (r2 (idx w q)).mpr (.inr ⟨q, hq, rfl⟩)
    exact mem_cells.mpr ⟨bit_lt hlt this, this⟩)
  rw [List.length_map] at le1 le2
  unfold cnt
  exact Nat.le_antisymm le1 le2

theorem rd_nats (ns : List Nat) (i : Nat) (hlt : i < ns.length) : rd (ns.map Int.ofNat) (i : Int) = (ns[i] : Int) := by
  rw [rd_get _ i (by rw [List.length_map]; exact hlt), List.getElem_map]
  rfl
theorem len_gt_f {l : List Int} (h : l.length = 0) : ((l.length : Int) > 0) = False := eq_false (by omega)
theorem len_gt_t {l : List Int} (h : ¬ l.length = 0) : ((l.length : Int) > 0) = True ∧ (0 < (l.length : Int)) = True := ⟨eq_true (by omega), eq_true (by omega)⟩
def greedy (w h : Nat) (turn : Bool) : List Nat → Nat → List Int → List Int
  | [], _, out => out
  | M :: r, F, out => if M = 0 then greedy w h turn r F out else if (laysOf w h F M turn).length = 0 then greedy w h turn r F out else greedy w h turn r (andn F (rd (laysOf w h F M turn) 0).toNat) (out ++ [rd (laysOf w h F M turn) 0])
section
variable {w h : Nat} (hw : 1 ≤ w) (hw6 : w ≤ 6) (hh : h ≤ 6) (turn : Bool) (ns : List Nat) (hns : ∀ M ∈ ns, lt2 M (w * h)) (hnl : ns.length ≤ 12)
include hw hw6 hh hns hnl
theorem greedy_step (F : Nat) (hF : lt2 F (w * h)) (M : Nat) (h0 : ¬ (laysOf w h F M turn).length = 0) : ∃ b : Nat, rd (laysOf w h F M turn) 0 = (b : Int) ∧ Go.bits .andNot .i64 (F : Int) (b : Int) = ((andn F b : Nat) : Int) ∧ wrap64 ((F : Int) - (b : Int)) = ((andn F b : Nat) : Int) ∧ lt2 (andn F b) (w * h) := by
  have hN : w * h ≤ 36 := Nat.mul_le_mul hw6 hh
  have hF' := lt2_lt hN hF
  have e : rd (laysOf w h F M turn) 0 = (laysOf w h F M turn)[0]'(by omega) := rd_get _ 0 (by omega)
  obtain ⟨b, b0, hb, hs⟩ := laysOf_mem w h F M turn _ (List.getElem_mem (show 0 < (laysOf w h F M turn).length by omega))
  obtain ⟨g1, g2⟩ := off_both b F hF' hs
  exact ⟨b, e.trans hb, g1, g2, off_lt2 hF⟩
theorem greedy_impl (d : Nat) : ∀ (i F : Nat) (out : List Int), ns.length - i = d → i ≤ ns.length → lt2 F (w * h) → out.length ≤ i → Ev (fun k => impl_NestGreedy.l0 k (w : Int) (h : Int) turn (F : Int) out (ns.map Int.ofNat) (ns.length : Int) (i : Int)) (greedy w h turn (ns.drop i) F out) := by
  have hN : w * h ≤ 36 := Nat.mul_le_mul hw6 hh
  induction d with
  | zero =>
    intro i F out hd hi hF ho
    rw [List.drop_of_length_le (by omega)]
    refine Ev.step (f := fun _ => some out) (fun k => ?_) (Ev.now _)
    simp only [impl_NestGreedy.l0, lt_f (show ns.length ≤ i by omega), if_false]
  | succ d ih =>
    intro i F out hd hi hF ho
    have hlt : i < ns.length := by omega
    have hi1 : ns.length - (i + 1) = d := by omega
    have hi2 : i + 1 ≤ ns.length := by omega
    have hi3 := w1 (show i ≤ 140737488355328 by omega)
    have ho1 : out.length ≤ i + 1 := by omega
    have hol : (out.length < 17592186044416) = True := eq_true (by omega)
    have hlt2 : ((i : Int) < (((ns.map Int.ofNat).length : Nat) : Int)) = True := by rw [List.length_map]; exact lt_t hlt
    have er := rd_nats ns i hlt
    have hM := hns ns[i] (List.getElem_mem hlt)
    rw [List.drop_eq_getElem_cons hlt, greedy]
    generalize ns[i] = M at er hM ⊢
    by_cases h0 : M = 0
    · rw [if_pos h0]
      refine Ev.step (fun k => ?_) (ih (i + 1) F out hi1 hi2 hF ho1)
      have hz : ((M : Int) = 0) = True := eq_true (Int.ofNat_eq_zero.mpr h0)
      simp only [impl_NestGreedy.l0, lt_t hlt, nn_t, hlt2, if_true, er, hz, hi3]
    · rw [if_neg h0]
      have hz : ((M : Int) = 0) = False := eq_false (fun e => h0 (Int.ofNat_eq_zero.mp e))
      refine Ev.step (f := fun k => (impl_layings.f k (w : Int) (h : Int) (F : Int) (M : Int) turn).bind fun t180 => (if (t180.length : Int) > 0 then (if 0 < (t180.length : Int) then (impl_NestGreedy.l0 k (w : Int) (h : Int) turn (Go.bits .andNot .i64 (F : Int) (rd t180 0)) (out ++ [rd t180 0]) (ns.map Int.ofNat) (ns.length : Int) ((i + 1 : Nat) : Int)) else (none)) else (impl_NestGreedy.l0 k (w : Int) (h : Int) turn (F : Int) out (ns.map Int.ofNat) (ns.length : Int) ((i + 1 : Nat) : Int)))) (fun k => ?_) (Ev.bind (layings_f hw hw6 hh (lt2_lt hN hF) h0 hM turn) ?_)
      · simp only [impl_NestGreedy.l0, lt_t hlt, nn_t, hlt2, if_true, er, hz, hi3, hol, if_false]
      · by_cases hl : (laysOf w h F M turn).length = 0
        · have hg := len_gt_f hl
          rw [if_pos hl]
          simp only [hg, if_false]
          exact ih (i + 1) F out hi1 hi2 hF ho1
        · have hg := (len_gt_t hl).1
          have hg' := (len_gt_t hl).2
          rw [if_neg hl]
          obtain ⟨b, e1, e2, e3, e4⟩ := greedy_step hw hw6 hh turn ns hns hnl F hF M hl
          simp only [hg, hg', if_true, e1, e2, Int.toNat_natCast]
          exact ih (i + 1) (andn F b) (out ++ [(b : Int)]) hi1 hi2 e4 (by rw [List.length_append, List.length_singleton]; exact Nat.succ_le_succ ho)
end
section
variable {w h F M : Nat} (hw : 1 ≤ w) (hw6 : w ≤ 6) (hh : h ≤ 6) (hF : F < 9223372036854775808) (hM : M ≠ 0) (hMl : lt2 M (w * h))
include hw hw6 hh hF hM hMl
def fitL (w h F M m : Nat) : Int := if (mvM w h M m).2 = true then ((laysOf w h F (mvM w h M m).1 false).length : Int) else 0
theorem fits_impl (d : Nat) : ∀ (m : Nat) (out : List Int), 8 - m = d → m ≤ 8 → out.length ≤ m → Ev (fun k => impl_FitsHow.l0 k (w : Int) (h : Int) (F : Int) (M : Int) out (m : Int)) (out ++ (List.range' m d).map (fitL w h F M)) := by
  induction d with
  | zero =>
    intro m out hd hm ho
    have e : m = 8 := by omega
    subst e
    refine Ev.step (f := fun _ => some out) (fun k => ?_) (by simpa using Ev.now out)
    simp [impl_FitsHow.l0]
  | succ d ih =>
    intro m out hd hm ho
    have hlt : m < 8 := by omega
    have hl8 : ((m : Int) < 8) = True := eq_true (by omega)
    have hm1 := w1 (show m ≤ 140737488355328 by omega)
    have hol : (out.length < 17592186044416) = True := eq_true (by omega)
    have H := ih (m + 1) (out ++ [fitL w h F M m]) (by omega) (by omega) (by simp; omega)
    rw [List.append_assoc, List.singleton_append] at H
    rw [List.range'_succ, List.map_cons]
    refine Ev.step (f := fun k => (impl_movedMask.f k (w : Int) (h : Int) (M : Int) (m : Int)).bind fun bt180 => (if bt180.2 = true then ((impl_layings.f k (w : Int) (h : Int) (F : Int) bt180.1 false).bind fun t182 => (impl_FitsHow.l0 k (w : Int) (h : Int) (F : Int) (M : Int) (out ++ [(t182.length : Int)]) ((m + 1 : Nat) : Int))) else (impl_FitsHow.l0 k (w : Int) (h : Int) (F : Int) (M : Int) (out ++ [0]) ((m + 1 : Nat) : Int)))) (fun k => ?_) (Ev.bind (movedMask_f w h M m hw hw6 hh hM hMl hlt) ?_)
    · simp only [impl_FitsHow.l0, hl8, if_true, hm1, hol]
    · by_cases hb : (mvM w h M m).2 = true
      · obtain ⟨c1, c2⟩ := mvM_corner w h M m hw hw6 hh hM hMl hb
        have hC := mvM_lt2 hw hw6 hh hF hM hMl m
        have ef : fitL w h F M m = ((laysOf w h F (mvM w h M m).1 false).length : Int) := if_pos hb
        rw [ef] at H ⊢
        simp only [hb, if_true]
        have := layings_f hw hw6 hh hF c1 hC false
        refine Ev.bind this ?_
        exact H
      · have hb' : (mvM w h M m).2 = false := by simpa using hb
        have ef : fitL w h F M m = 0 := if_neg hb
        rw [ef] at H ⊢
        simp only [hb', Bool.false_eq_true, if_false]
        exact H
end
theorem run_first (l : List (List Int)) : (runV naVis l none).2 = l.head? := by
  cases l with
  | nil => rfl
  | cons x r => rfl
theorem run_count (l : List (List Int)) : ∀ s : Nat, s < 5000 → (runV cnVis l (s : Int)).2 = ((min (s + l.length) 5000 : Nat) : Int) := by
  induction l with
  | nil =>
    intro s hs
    simp only [runV, List.length_nil, Nat.add_zero, Nat.min_eq_left (Nat.le_of_lt hs)]
  | cons x r ih =>
    intro s hs
    have e : wrap64 ((s : Int) + 1) = ((s + 1 : Nat) : Int) := w1 (by omega)
    have ev : cnVis x (s : Int) = (decide (((s + 1 : Nat) : Int) < 5000), ((s + 1 : Nat) : Int)) := by unfold cnVis; rw [e]
    rw [runV, ev]
    clear e ev
    by_cases hc : s + 1 < 5000
    · have h1 : decide (((s + 1 : Nat) : Int) < 5000) = true := decide_eq_true (by omega)
      simp only [h1, if_true]
      rw [ih (s + 1) hc, List.length_cons]
      have e2 : min (s + 1 + r.length) 5000 = min (s + (r.length + 1)) 5000 := by omega
      rw [e2]
    · have h1 : decide (((s + 1 : Nat) : Int) < 5000) = false := decide_eq_false (by omega)
      simp only [h1, Bool.false_eq_true, if_false]
      rw [List.length_cons]
      have e2 : min (s + (r.length + 1)) 5000 = s + 1 := by omega
      rw [e2]

def Put (w h F M : Nat) (turn : Bool) (b : Nat) : Prop := b ≠ 0 ∧ sub b F ∧ (∃ m, m < 8 ∧ (m = 0 ∨ turn = true) ∧ (mvM w h M m).2 = true ∧ mvM w h b 0 = ((mvM w h M m).1, true)) ∧ cnt (w * h) b = cnt (w * h) M
theorem mem_lays (w h F M : Nat) (turn : Bool) (z : Int) : z ∈ laysOf w h F M turn ↔ ∃ m, m < 8 ∧ (m = 0 ∨ turn = true) ∧ z ∈ layL w h F M m := by
  rw [show z ∈ laysOf w h F M turn ↔ z ∈ impOut w h F M turn 0 8 from (sorted_compact _).1 z]
  unfold impOut
  rw [List.mem_flatMap]
  constructor
  · rintro ⟨m, hm, hz⟩
    have := List.mem_range'_1.mp hm
    by_cases c : m = 0 ∨ turn = true
    · rw [if_pos c] at hz; exact ⟨m, by omega, c, hz⟩
    · rw [if_neg c] at hz; exact absurd hz (by simp)
  · rintro ⟨m, hm, c, hz⟩
    exact ⟨m, List.mem_range'_1.mpr (by omega), by rw [if_pos c]; exact hz⟩
theorem lays_asc (w h F M : Nat) (turn : Bool) : (laysOf w h F M turn).Pairwise (· < ·) := (sorted_compact _).2
theorem lays_nd (w h F M : Nat) (turn : Bool) : (laysOf w h F M turn).Pairwise (· ≠ ·) := (lays_asc w h F M turn).imp fun h => Int.ne_of_lt h
theorem shL_try (w h F C : Nat) (z : Int) (hz : z ∈ shL w h F C) : ∃ b x y : Nat, z = (b : Int) ∧ b ≠ 0 ∧ sub b F ∧ tryS w h F x y (cellsOf (w * h) C) 0 = some b := by
  unfold shL allS rowS at hz
  obtain ⟨y, _, hz⟩ := List.mem_flatMap.mp hz
  obtain ⟨x, _, hz⟩ := List.mem_flatMap.mp hz
  obtain ⟨b, e, h0, hz⟩ := nxt_mem _ z hz
  refine ⟨b, x, y, hz, h0, fun j hj => ?_, e⟩
  rcases tryS_sub _ _ _ _ _ _ b 0 e j hj with h1 | h1
  · simp at h1
  · exact h1
section
variable {w h : Nat} (hw : 1 ≤ w) (hw6 : w ≤ 6) (hh : h ≤ 6)
include hw hw6 hh
theorem lays_put (F M : Nat) (hM : M ≠ 0) (hl : lt2 M (w * h)) (turn : Bool) (z : Int) (hz : z ∈ laysOf w h F M turn) : ∃ b : Nat, z = (b : Int) ∧ Put w h F M turn b := by
  have hN : w * h ≤ 36 := Nat.mul_le_mul hw6 hh
  obtain ⟨m, hm, ht, hz⟩ := (mem_lays w h F M turn z).mp hz
  unfold layL at hz
  by_cases hok : (mvM w h M m).2 = true
  · rw [if_pos hok] at hz
    obtain ⟨b, x, y, e1, e2, e3, e4⟩ := shL_try w h F _ z hz
    obtain ⟨c1, c2⟩ := mvM_corner w h M m hw hw6 hh hM hl hok
    have hC : lt2 (mvM w h M m).1 (w * h) := mvM_lt w h M m hw6 hh hM hl
    obtain ⟨s1, s2⟩ := mv_shift w h F x y _ b c1 hC e4 hN
    exact ⟨b, e1, e2, e3, ⟨m, hm, ht, hok, s1.trans c2⟩, s2.trans (mv_cnt w h M m hw6 hh hM hl hok)⟩
  · rw [if_neg hok] at hz; exact absurd hz (by simp)
theorem lay_lays (F M m : Nat) (hM : M ≠ 0) (hl : lt2 M (w * h)) (hok : (mvM w h M m).2 = true) (z : Int) : z ∈ laysOf w h F (mvM w h M m).1 false ↔ z ∈ layL w h F M m := by
  obtain ⟨c1, c2⟩ := mvM_corner w h M m hw hw6 hh hM hl hok
  rw [mem_lays]
  have e1 : layL w h F M m = shL w h F (mvM w h M m).1 := if_pos hok
  have e2 : layL w h F (mvM w h M m).1 0 = shL w h F (mvM w h M m).1 := by unfold layL; rw [c2]; rfl
  constructor
  · rintro ⟨n, _, hn, hz⟩
    rcases hn with rfl | hn
    · rw [e1, ← e2]; exact hz
    · exact absurd hn (by simp)
  · intro hz
    exact ⟨0, by omega, .inl rfl, by rw [e2, ← e1]; exact hz⟩
theorem lays_first (F M : Nat) (hM : M ≠ 0) (hl : lt2 M (w * h)) : laysOf w h F (mvM w h M 0).1 false = laysOf w h F M false := by
  refine asc_ext _ _ (lays_asc _ _ _ _ _) (lays_asc _ _ _ _ _) fun z => ?_
  rw [lay_lays hw hw6 hh F M 0 hM hl (mvM0_ok w h M hw hM hl), mem_lays]
  constructor
  · intro hz; exact ⟨0, by omega, .inl rfl, hz⟩
  · rintro ⟨n, _, hn, hz⟩
    rcases hn with rfl | hn
    · exact hz
    · exact absurd hn (by simp)
theorem lays_more (F M : Nat) (z : Int) (hz : z ∈ laysOf w h F M false) : z ∈ laysOf w h F M true := by
  obtain ⟨m, hm, ht, hz⟩ := (mem_lays w h F M false z).mp hz
  exact (mem_lays w h F M true z).mpr ⟨m, hm, .inr rfl, hz⟩
end
def fitN (w h F M m : Nat) : Nat := if (mvM w h M m).2 = true then (laysOf w h F (mvM w h M m).1 false).length else 0
def fitS (w h F M m : Nat) : List Int := if (mvM w h M m).2 = true then laysOf w h F (mvM w h M m).1 false else []
theorem fitS_len (w h F M m : Nat) : (fitS w h F M m).length = fitN w h F M m := by
  unfold fitS fitN
  split <;> rfl
theorem fitL_N (w h F M m : Nat) : fitL w h F M m = ((fitN w h F M m : Nat) : Int) := by
  unfold fitL fitN
  split <;> rfl
theorem fitN_le (w h F M m : Nat) (hw6 : w ≤ 6) (hh : h ≤ 6) : fitN w h F M m ≤ 288 := by
  unfold fitN
  split
  · exact laysOf_facts w h F _ hw6 hh false
  · omega
def fits (w h F M : Nat) : List Nat := (List.range' 0 8).map (fitN w h F M)
theorem fits_many (w h F M : Nat) (hw : 1 ≤ w) (hw6 : w ≤ 6) (hh : h ≤ 6) (hM : M ≠ 0) (hl : lt2 M (w * h)) : (laysOf w h F M true).length ≤ (fits w h F M).sum := by
  have A := sub_len (laysOf w h F M true) ((List.range' 0 8).flatMap (fitS w h F M)) (lays_nd _ _ _ _ _) (fun z hz => by
    obtain ⟨m, hm, _, hz⟩ := (mem_lays w h F M true z).mp hz
    refine List.mem_flatMap.mpr ⟨m, List.mem_range'_1.mpr (by omega), ?_⟩
    by_cases hok : (mvM w h M m).2 = true
    · unfold fitS
      rw [if_pos hok]
      exact (lay_lays hw hw6 hh F M m hM hl hok z).mpr hz
    · unfold layL at hz
      rw [if_neg hok] at hz
      exact absurd hz (by simp))
  rw [List.length_flatMap] at A
  unfold fits
  rw [show (fun a => (fitS w h F M a).length) = fitN w h F M from funext (fitS_len w h F M)] at A
  exact A
theorem sum_le (l : List Nat) (B : Nat) (h : ∀ x ∈ l, x ≤ B) : l.sum ≤ B * l.length := by
  induction l with
  | nil => simp
  | cons x r ih =>
    have h1 := h x (by simp)
    have h2 := ih fun y hy => h y (by simp [hy])
    rw [List.sum_cons, List.length_cons, Nat.mul_succ]
    omega
theorem fits_small (w h F M : Nat) (hw6 : w ≤ 6) (hh : h ≤ 6) : (fits w h F M).sum ≤ 2304 := by
  have := sum_le (fits w h F M) 288 (fun x hx => by
    obtain ⟨m, _, rfl⟩ := List.mem_map.mp hx
    exact fitN_le w h F M m hw6 hh)
  simpa [fits] using this
theorem sum_l (l : List Nat) (hl : l.length ≤ 1000) (d : Nat) : ∀ i s : Nat, l.length - i = d → i ≤ l.length → s + (l.drop i).sum ≤ 4611686018427387904 → Ev (fun k => laws_sum.l0 k (s : Int) (l.map Int.ofNat) (l.length : Int) (i : Int)) ((s + (l.drop i).sum : Nat) : Int) := by
  induction d with
  | zero =>
    intro i s hd hi hs
    rw [List.drop_of_length_le (by omega)]
    refine Ev.step (f := fun _ => some (s : Int)) (fun k => ?_) (Ev.now _)
    simp only [laws_sum.l0, lt_f (show l.length ≤ i by omega), if_false]
  | succ d ih =>
    intro i s hd hi hs
    have hlt : i < l.length := by omega
    have hi1 := w1 (show i ≤ 140737488355328 by omega)
    have er := rd_nats l i hlt
    have hlt2 : ((i : Int) < (((l.map Int.ofNat).length : Nat) : Int)) = True := by rw [List.length_map]; exact lt_t hlt
    rw [List.drop_eq_getElem_cons hlt, List.sum_cons] at hs ⊢
    generalize l[i] = x at er hs ⊢
    have ew : wrap64 ((s : Int) + (x : Int)) = ((s + x : Nat) : Int) := by rw [← Int.natCast_add]; exact w64n _ (by omega)
    have A := ih (i + 1) (s + x) (by omega) (by omega) (by omega)
    rw [← Nat.add_assoc]
    refine Ev.step (fun k => ?_) A
    rw [laws_sum.l0, if_pos (of_eq_true (lt_t hlt)), if_pos (Int.natCast_nonneg i), if_pos (of_eq_true hlt2), er, ew, hi1]
theorem sum_f (l : List Nat) (hl : l.length ≤ 1000) (hs : l.sum ≤ 4611686018427387904) : Ev (fun k => laws_sum.f k (l.map Int.ofNat)) ((l.sum : Nat) : Int) := by
  have A := sum_l l hl l.length 0 0 rfl (Nat.zero_le _) (by rw [List.drop_zero]; omega)
  rw [List.drop_zero, Nat.zero_add] at A
  refine Ev.congr (fun k => ?_) A
  unfold laws_sum.f
  rw [List.length_map]
  rfl
def Nst : Nat → List Nat → Prop
  | _, [] => True
  | F, b :: g => b ≠ 0 ∧ sub b F ∧ Nst (andn F b) g
def Puts (w h : Nat) (turn : Bool) : Nat → List Nat → List Nat → Prop
  | _, [], [] => True
  | F, M :: r, b :: g => Put w h F M turn b ∧ Puts w h turn (andn F b) r g
  | _, _, _ => False
theorem puts_nst (w h : Nat) (turn : Bool) (ns : List Nat) : ∀ F g, Puts w h turn F ns g → Nst F g ∧ g.length = ns.length := by
  induction ns with
  | nil => intro F g h; cases g with
    | nil => exact ⟨trivial, rfl⟩
    | cons b g => exact h.elim
  | cons M r ih => intro F g h; cases g with
    | nil => exact h.elim
    | cons b g =>
      obtain ⟨h1, h2⟩ := ih _ _ h.2
      exact ⟨⟨h.1.1, h.1.2.1, h1⟩, by rw [List.length_cons, List.length_cons, h2]⟩
def gr (w h : Nat) (turn : Bool) : List Nat → Nat → List Nat
  | [], _ => []
  | M :: r, F => match laysOf w h F M turn with
    | [] => gr w h turn r F
    | z :: _ => z.toNat :: gr w h turn r (andn F z.toNat)
section
variable {w h : Nat} (hw : 1 ≤ w) (hw6 : w ≤ 6) (hh : h ≤ 6) (turn : Bool)
include hw hw6 hh
theorem gr_facts (ns : List Nat) : ∀ F : Nat, (∀ M ∈ ns, lt2 M (w * h) ∧ M ≠ 0) → (∀ out, greedy w h turn ns F out = out ++ (gr w h turn ns F).map Int.ofNat) ∧ Nst F (gr w h turn ns F) ∧ (gr w h turn ns F).length ≤ ns.length ∧ ((gr w h turn ns F).length = ns.length → ∃ rest, allN w h turn ns F = (gr w h turn ns F).map Int.ofNat :: rest) := by
  induction ns with
  | nil => intro F _; exact ⟨fun out => by simp [greedy, gr], trivial, Nat.le_refl _, fun _ => ⟨[], rfl⟩⟩
  | cons M r ih =>
    intro F hns
    have hM := hns M (by simp)
    have hr := fun N hN => hns N (List.mem_cons_of_mem M hN)
    have hput := lays_put hw hw6 hh F M hM.2 hM.1 turn
    have eg : gr w h turn (M :: r) F = match laysOf w h F M turn with
      | [] => gr w h turn r F
      | z :: _ => z.toNat :: gr w h turn r (andn F z.toNat) := rfl
    have ea : allN w h turn (M :: r) F = (laysOf w h F M turn).flatMap fun x => (allN w h turn r (andn F x.toNat)).map (x :: ·) := rfl
    have egr : ∀ out, greedy w h turn (M :: r) F out = if (laysOf w h F M turn).length = 0 then greedy w h turn r F out else greedy w h turn r (andn F (rd (laysOf w h F M turn) 0).toNat) (out ++ [rd (laysOf w h F M turn) 0]) := fun out => by rw [greedy, if_neg hM.2]
    rw [eg, ea]
    simp only [egr]
    generalize laysOf w h F M turn = L at hput
    cases L with
    | nil =>
      obtain ⟨i1, i2, i3, i4⟩ := ih F hr
      refine ⟨fun out => by simpa using i1 out, i2, Nat.le_trans i3 (Nat.le_succ _), fun e => ?_⟩
      simp only [List.length_cons] at e
      omega
    | cons z t =>
      obtain ⟨b, rfl, hb⟩ := hput z (by simp)
      obtain ⟨i1, i2, i3, i4⟩ := ih (andn F b) hr
      have e0 : rd ((b : Int) :: t) 0 = (b : Int) := rfl
      refine ⟨fun out => ?_, ⟨hb.1, hb.2.1, i2⟩, Nat.succ_le_succ i3, fun e => ?_⟩
      · rw [if_neg (by simp), e0]
        simp only [Int.toNat_natCast]
        rw [i1]
        simp
      · obtain ⟨rest, hrest⟩ := i4 (Nat.succ.inj e)
        refine ⟨(rest.map ((b : Int) :: ·)) ++ (t.flatMap fun x => (allN w h turn r (andn F x.toNat)).map (x :: ·)), ?_⟩
        rw [List.flatMap_cons]
        simp only [Int.toNat_natCast]
        rw [hrest]
        simp
theorem all_puts (ns : List Nat) : ∀ F : Nat, (∀ M ∈ ns, lt2 M (w * h) ∧ M ≠ 0) → ∀ x ∈ allN w h turn ns F, ∃ g : List Nat, x = g.map Int.ofNat ∧ Puts w h turn F ns g := by
  induction ns with
  | nil =>
    intro F _ x hx
    have : x = [] := by simpa [allN] using hx
    exact ⟨[], this, trivial⟩
  | cons M r ih =>
    intro F hns x hx
    have hM := hns M (by simp)
    have hr := fun N hN => hns N (List.mem_cons_of_mem M hN)
    rw [allN] at hx
    obtain ⟨z, hz, hx⟩ := List.mem_flatMap.mp hx
    obtain ⟨b, rfl, hb⟩ := lays_put hw hw6 hh F M hM.2 hM.1 turn z hz
    obtain ⟨y, hy, rfl⟩ := List.mem_map.mp hx
    rw [Int.toNat_natCast] at hy
    obtain ⟨g, rfl, hg⟩ := ih _ hr y hy
    exact ⟨b :: g, rfl, hb, hg⟩
end

theorem lt2_sub {b F N : Nat} (hN : N ≤ 36) (hF : lt2 F N) (hb : sub b F) : lt2 b N := Nat.lt_of_le_of_lt (sub_off b F (lt2_lt hN hF) hb).2 hF
theorem shapeOk_nat {w h : Nat} (hw : 1 ≤ w) (hw6 : w ≤ 6) (h1 : 1 ≤ h) (hh : h ≤ 6) (b : Nat) (hl : lt2 b (w * h)) : shapeOk (w : Int) (h : Int) (b : Int) = true := by
  have ht : tab (w : Int) (h : Int) = true := by unfold tab; exact decide_eq_true (by omega)
  unfold shapeOk
  rw [ht, Bool.true_and, ← Int.natCast_mul, Int.toNat_natCast]
  exact decide_eq_true ⟨Int.natCast_nonneg b, Int.ofNat_lt.mpr hl⟩
theorem off_bit {F b N : Nat} (hN : N ≤ 36) (hF : lt2 F N) (hb : lt2 b N) (j : Nat) : (andn F b).testBit j = (F.testBit j && !b.testBit j) :=
  testBit_andn F b j (Nat.lt_trans (lt2_lt hN hF) (by decide)) (Nat.lt_trans (lt2_lt hN hb) (by decide))
section
variable {w h : Nat} (hw : 1 ≤ w) (hw6 : w ≤ 6) (h1 : 1 ≤ h) (hh : h ≤ 6)
include hw hw6 h1 hh
theorem nestok_l (L : List Nat) (hL : L.length ≤ 12) (d : Nat) : ∀ i F a : Nat, L.length - i = d → i ≤ L.length → lt2 F (w * h) → lt2 a (w * h) → (∀ j, a.testBit j = true → F.testBit j = false) → Nst F (L.drop i) → Ev (fun k => impl_NestOk.l0 k (w : Int) (h : Int) (a : Int) (L.map Int.ofNat) (L.length : Int) (i : Int)) true := by
  have hN : w * h ≤ 36 := Nat.mul_le_mul hw6 hh
  induction d with
  | zero =>
    intro i F a hd hi _ _ _ _
    refine Ev.step (f := fun _ => some true) (fun k => ?_) (Ev.now _)
    simp only [impl_NestOk.l0, lt_f (show L.length ≤ i by omega), if_false]
  | succ d ih =>
    intro i F a hd hi hF ha hdis hn
    have hlt : i < L.length := by omega
    have hi1 := w1 (show i ≤ 140737488355328 by omega)
    have hd1 : L.length - (i + 1) = d := by omega
    have er := rd_nats L i hlt
    have hlt2 : ((i : Int) < (((L.map Int.ofNat).length : Nat) : Int)) = True := by rw [List.length_map]; exact lt_t hlt
    rw [List.drop_eq_getElem_cons hlt] at hn
    generalize L[i] = b at er hn
    obtain ⟨hb0, hs, hn⟩ := hn
    have hb := lt2_sub hN hF hs
    have e0 : a &&& b = 0 := Nat.eq_of_testBit_eq fun j => by
      rw [Nat.testBit_and, Nat.zero_testBit]
      cases hj : a.testBit j with
      | false => rfl
      | true =>
        cases hbj : b.testBit j with
        | false => rfl
        | true => have := hdis j hj; rw [hs j hbj] at this; exact absurd this (by simp)
    have ea : Go.bits .and .i64 (a : Int) (b : Int) = 0 := by rw [i64_and a b (lt2_lt hN ha) (lt2_lt hN hb), e0]; rfl
    have eo := i64_or a b (lt2_lt hN ha) (lt2_lt hN hb)
    have A := ih (i + 1) (andn F b) (a ||| b) hd1 hlt (off_lt2 hF) (Nat.or_lt_two_pow ha hb) (fun j hj => by
      rw [off_bit hN hF hb]
      rw [Nat.testBit_or, Bool.or_eq_true] at hj
      rcases hj with hj | hj
      · rw [hdis j hj]; rfl
      · rw [hj]; simp) hn
    refine Ev.step (fun k => ?_) A
    rw [impl_NestOk.l0, if_pos (of_eq_true (lt_t hlt)), if_pos (Int.natCast_nonneg i), if_pos (of_eq_true hlt2), er, ShapeOk_f, shapeOk_nat hw hw6 h1 hh b hb, Option.bind_some, if_pos rfl, ea, if_pos rfl, eo, hi1]
theorem nestok_f (L : List Nat) (hL : L.length ≤ 12) (F : Nat) (hF : lt2 F (w * h)) (hn : Nst F L) : Ev (fun k => impl_NestOk.f k (w : Int) (h : Int) (L.map Int.ofNat)) true := by
  have ht : tab (w : Int) (h : Int) = true := by unfold tab; exact decide_eq_true (by omega)
  have A := nestok_l hw hw6 h1 hh L hL L.length 0 F 0 rfl (Nat.zero_le _) hF (lt2_zero _) (fun j hj => by simp at hj) (by rw [List.drop_zero]; exact hn)
  have hd : decide (((L.map Int.ofNat).length : Int) > 12) = false := decide_eq_false (by rw [List.length_map]; omega)
  refine Ev.congr (f := fun k => impl_NestOk.j0 k (w : Int) (h : Int) (L.map Int.ofNat) false) (fun k => ?_) (Ev.step (fun k => ?_) A)
  · unfold impl_NestOk.f
    rw [isTable_f, ht, Option.bind_some, if_pos rfl, hd]
  · rw [impl_NestOk.j0, if_neg (by simp), List.length_map]
    rfl
theorem freeof_l (L : List Nat) (hL : L.length ≤ 12) (d : Nat) : ∀ i F : Nat, L.length - i = d → i ≤ L.length → lt2 F (w * h) → Nst F (L.drop i) → ∃ R : Nat, lt2 R (w * h) ∧ R + (L.drop i).sum = F ∧ Ev (fun k => impl_FreeOf.l0 k (F : Int) (L.map Int.ofNat) (L.length : Int) (i : Int)) (R : Int) := by
  have hN : w * h ≤ 36 := Nat.mul_le_mul hw6 hh
  induction d with
  | zero =>
    intro i F hd hi hF _
    rw [List.drop_of_length_le (by omega)]
    refine ⟨F, hF, rfl, Ev.step (f := fun _ => some (F : Int)) (fun k => ?_) (Ev.now _)⟩
    simp only [impl_FreeOf.l0, lt_f (show L.length ≤ i by omega), if_false]
  | succ d ih =>
    intro i F hd hi hF hn
    have hlt : i < L.length := by omega
    have hi1 := w1 (show i ≤ 140737488355328 by omega)
    have hd1 : L.length - (i + 1) = d := by omega
    have er := rd_nats L i hlt
    have hlt2 : ((i : Int) < (((L.map Int.ofNat).length : Nat) : Int)) = True := by rw [List.length_map]; exact lt_t hlt
    rw [List.drop_eq_getElem_cons hlt] at hn ⊢
    generalize L[i] = b at er hn ⊢
    obtain ⟨hb0, hs, hn⟩ := hn
    obtain ⟨R, r1, r2, r3⟩ := ih (i + 1) (andn F b) hd1 hlt (off_lt2 hF) hn
    have e1 := (sub_off b F (lt2_lt hN hF) hs).1
    have e2 := (off_both b F (lt2_lt hN hF) hs).1
    refine ⟨R, r1, ?_, Ev.step (fun k => ?_) r3⟩
    · rw [List.sum_cons, ← e1, ← r2]
      clear e1 e2 r2 r3 er hi1
      omega
    · rw [impl_FreeOf.l0, if_pos (of_eq_true (lt_t hlt)), if_pos (Int.natCast_nonneg i), if_pos (of_eq_true hlt2), er, e2, hi1]
theorem freeof_f (L : List Nat) (hL : L.length ≤ 12) (F0 : Nat) (f1 : wrap64 ((w : Int) * (h : Int)) = ((w * h : Nat) : Int)) (f2 : wrap64 (shl .i64 1 ((w * h : Nat) : Int) - 1) = (F0 : Int)) (hF : lt2 F0 (w * h)) (hn : Nst F0 L) : ∃ R : Nat, lt2 R (w * h) ∧ R + L.sum = F0 ∧ Ev (fun k => impl_FreeOf.f k (w : Int) (h : Int) (L.map Int.ofNat)) (R : Int) := by
  obtain ⟨R, r1, r2, r3⟩ := freeof_l hw hw6 h1 hh L hL L.length 0 F0 rfl (Nat.zero_le _) hF (by rw [List.drop_zero]; exact hn)
  rw [List.drop_zero] at r2
  refine ⟨R, r1, r2, ?_⟩
  unfold impl_FreeOf.f
  refine Ev.bind (nestok_f hw hw6 h1 hh L hL F0 hF hn) ?_
  refine Ev.congr (fun k => ?_) r3
  rw [if_pos rfl, f1, if_pos (Int.natCast_nonneg _), f2, List.length_map]
  rfl
theorem corner_ff (M : Nat) (hM : M ≠ 0) (hl : lt2 M (w * h)) : Ev (fun k => impl_CornerOf.f k (w : Int) (h : Int) (M : Int)) ((mvM w h M 0).1 : Int) := by
  have A : Ev (fun k => (impl_movedMask.f k (w : Int) (h : Int) (M : Int) 0).bind fun bt295 => some bt295.1) ((mvM w h M 0).1 : Int) := Ev.bind (movedMask_f w h M 0 hw hw6 hh hM hl (by omega)) (Ev.now _)
  refine Ev.congr (fun k => ?_) A
  unfold impl_CornerOf.f
  rw [ShapeOk_f, shapeOk_nat hw hw6 h1 hh M hl, Option.bind_some, if_pos rfl]
theorem same_l (M C m : Nat) (hM : M ≠ 0) (hl : lt2 M (w * h)) (hm : m < 8) (e : mvM w h M m = (C, true)) (d : Nat) : ∀ i, m - i = d → i ≤ m → Ev (fun k => impl_SamePiece.l0 k (w : Int) (h : Int) (M : Int) (C : Int) (i : Int)) true := by
  induction d with
  | zero =>
    intro i hd hi
    have ei : i = m := by omega
    subst ei
    have h8 : (i : Int) < 8 := by omega
    refine Ev.step (f := fun k => (impl_movedMask.f k (w : Int) (h : Int) (M : Int) (i : Int)).bind fun bt300 => if bt300.2 = true then (if bt300.1 = (C : Int) then some true else (impl_SamePiece.l0 k (w : Int) (h : Int) (M : Int) (C : Int) (wrap64 ((i : Int) + 1)))) else (impl_SamePiece.l0 k (w : Int) (h : Int) (M : Int) (C : Int) (wrap64 ((i : Int) + 1)))) (fun k => ?_) ?_
    · rw [impl_SamePiece.l0, if_pos h8]
    · refine Ev.bind (movedMask_f w h M i hw hw6 hh hM hl hm) ?_
      rw [e]
      simp only [if_true]
      exact Ev.now _
  | succ d ih =>
    intro i hd hi
    have h8 : (i : Int) < 8 := by omega
    have hi1 := w1 (show i ≤ 140737488355328 by omega)
    have hd1 : m - (i + 1) = d := by omega
    have hi2 : i + 1 ≤ m := by omega
    have hi8 : i < 8 := by omega
    have A := ih (i + 1) hd1 hi2
    refine Ev.step (f := fun k => (impl_movedMask.f k (w : Int) (h : Int) (M : Int) (i : Int)).bind fun bt300 => if bt300.2 = true then (if bt300.1 = (C : Int) then some true else (impl_SamePiece.l0 k (w : Int) (h : Int) (M : Int) (C : Int) ((i + 1 : Nat) : Int))) else (impl_SamePiece.l0 k (w : Int) (h : Int) (M : Int) (C : Int) ((i + 1 : Nat) : Int))) (fun k => ?_) ?_
    · rw [impl_SamePiece.l0, if_pos h8, hi1]
    · refine Ev.bind (movedMask_f w h M i hw hw6 hh hM hl hi8) ?_
      generalize mvM w h M i = t
      obtain ⟨t1, t2⟩ := t
      cases t2 with
      | false => simp only [Bool.false_eq_true, if_false]; exact A
      | true =>
        simp only [if_true]
        by_cases ec : ((t1 : Nat) : Int) = (C : Int)
        · simp only [ec, if_true]; exact Ev.now _
        · simp only [ec, if_false]; exact A
theorem same_f (F M b : Nat) (hM : M ≠ 0) (hl : lt2 M (w * h)) (hb : lt2 b (w * h)) (hp : Put w h F M true b) : Ev (fun k => impl_SamePiece.f k (w : Int) (h : Int) (M : Int) (b : Int)) true := by
  obtain ⟨hb0, _, ⟨m, hm, _, hok, e⟩, _⟩ := hp
  have A := same_l hw hw6 h1 hh M (mvM w h M m).1 m hM hl hm (by rw [← hok]) m 0 rfl (Nat.zero_le _)
  have B := corner_ff hw hw6 h1 hh b hb0 hb
  rw [e] at B
  refine Ev.congr (f := fun k => impl_SamePiece.j0 k (w : Int) (h : Int) (M : Int) (b : Int) false) (fun k => ?_) ?_
  · unfold impl_SamePiece.f
    rw [ShapeOk_f, shapeOk_nat hw hw6 h1 hh M hl, Option.bind_some, if_pos rfl, ShapeOk_f, shapeOk_nat hw hw6 h1 hh b hb, Option.bind_some]
    rfl
  · refine Ev.step (f := fun k => (impl_CornerOf.f k (w : Int) (h : Int) (b : Int)).bind fun t299 => impl_SamePiece.l0 k (w : Int) (h : Int) (M : Int) t299 0) (fun k => ?_) (Ev.bind B A)
    rw [impl_SamePiece.j0, if_neg (by simp)]
theorem corner_same (F M b : Nat) (hp : Put w h F M false b) : mvM w h b 0 = ((mvM w h M 0).1, true) := by
  obtain ⟨_, _, ⟨m, _, ht, _, e⟩, _⟩ := hp
  rcases ht with rfl | ht
  · exact e
  · exact absurd ht (by simp)
theorem layingsF_f (F M : Nat) (hM : M ≠ 0) (hl : lt2 M (w * h)) (hF : lt2 F (w * h)) (turn : Bool) : Ev (fun k => impl_Layings.f k (w : Int) (h : Int) (F : Int) (M : Int) turn) (laysOf w h F M turn) := by
  have hN : w * h ≤ 36 := Nat.mul_le_mul hw6 hh
  have A : Ev (fun k => (impl_layings.f k (w : Int) (h : Int) (F : Int) (M : Int) turn).bind fun t => some t) (laysOf w h F M turn) := Ev.bind (layings_f hw hw6 hh (lt2_lt hN hF) hM hl turn) (Ev.now _)
  refine Ev.congr (fun k => ?_) A
  unfold impl_Layings.f
  have hz : ¬ (M : Int) = 0 := fun e => hM (Int.ofNat_eq_zero.mp e)
  rw [ShapeOk_f, shapeOk_nat hw hw6 h1 hh F hF, Option.bind_some, if_pos rfl, ShapeOk_f, shapeOk_nat hw hw6 h1 hh M hl, Option.bind_some, if_pos rfl, if_neg hz]
theorem fitshow_f (F M : Nat) (hM : M ≠ 0) (hl : lt2 M (w * h)) (hF : lt2 F (w * h)) : Ev (fun k => impl_FitsHow.f k (w : Int) (h : Int) (F : Int) (M : Int)) ((fits w h F M).map Int.ofNat) := by
  have hN : w * h ≤ 36 := Nat.mul_le_mul hw6 hh
  have A := fits_impl hw hw6 hh (lt2_lt hN hF) hM hl 8 0 [] (by omega) (by omega) (by simp)
  have e : [] ++ (List.range' 0 8).map (fitL w h F M) = (fits w h F M).map Int.ofNat := by
    unfold fits
    rw [List.nil_append, List.map_map]
    exact List.map_congr_left fun m _ => fitL_N w h F M m
  rw [e] at A
  refine Ev.congr (f := fun k => impl_FitsHow.j0 k (w : Int) (h : Int) (F : Int) (M : Int) false) (fun k => ?_) (Ev.step (fun k => ?_) A)
  · unfold impl_FitsHow.f
    have hz : ((M : Int) == 0) = false := beq_eq_false_iff_ne.mpr fun e => hM (Int.ofNat_eq_zero.mp e)
    rw [ShapeOk_f, shapeOk_nat hw hw6 h1 hh F hF, Option.bind_some, if_pos rfl, ShapeOk_f, shapeOk_nat hw hw6 h1 hh M hl, Option.bind_some, if_pos rfl, hz]
  · rw [impl_FitsHow.j0, if_neg (by simp)]
    rfl
end
theorem has_l (z : Int) (L : List Int) (hL : L.length ≤ 1000) (d : Nat) : ∀ i : Nat, L.length - i = d → i ≤ L.length → z ∈ L.drop i → Ev (fun k => laws_has.l0 k z L (L.length : Int) (i : Int)) true := by
  induction d with
  | zero =>
    intro i hd hi hz
    rw [List.drop_of_length_le (by omega)] at hz
    exact absurd hz (by simp)
  | succ d ih =>
    intro i hd hi hz
    have hlt : i < L.length := by omega
    have hi1 := w1 (show i ≤ 140737488355328 by omega)
    rw [List.drop_eq_getElem_cons hlt] at hz
    have er := rd_get L i hlt
    by_cases e : L[i] = z
    · refine Ev.step (f := fun _ => some true) (fun k => ?_) (Ev.now _)
      rw [laws_has.l0, if_pos (of_eq_true (lt_t hlt)), if_pos (Int.natCast_nonneg i), if_pos (of_eq_true (lt_t hlt)), er, if_pos e]
    · have A := ih (i + 1) (by omega) (by omega) (by
        rcases List.mem_cons.mp hz with h | h
        · exact absurd h.symm e
        · exact h)
      refine Ev.step (fun k => ?_) A
      rw [laws_has.l0, if_pos (of_eq_true (lt_t hlt)), if_pos (Int.natCast_nonneg i), if_pos (of_eq_true (lt_t hlt)), er, if_neg e, hi1]
theorem has_ff (z : Int) (L : List Int) (hL : L.length ≤ 1000) (h : z ∈ L) : Ev (fun k => laws_has.f k L z) true := has_l z L hL L.length 0 rfl (Nat.zero_le _) (by rw [List.drop_zero]; exact h)
theorem before_l (L : List Int) (hL : L.length ≤ 1000) (d : Nat) : ∀ i : Nat, L.length - i = d → i ≤ L.length → Ev (fun k => laws_before.l0 k L L (L.length : Int) (i : Int)) false := by
  induction d with
  | zero =>
    intro i hd hi
    refine Ev.step (f := fun _ => some false) (fun k => ?_) (Ev.now _)
    simp only [laws_before.l0, lt_f (show L.length ≤ i by omega), if_false]
  | succ d ih =>
    intro i hd hi
    have hlt : i < L.length := by omega
    have hi1 := w1 (show i ≤ 140737488355328 by omega)
    have hge : ¬ (i : Int) ≥ (L.length : Int) := by omega
    refine Ev.step (fun k => ?_) (ih (i + 1) (by omega) (by omega))
    rw [laws_before.l0, if_pos (of_eq_true (lt_t hlt)), if_pos (Int.natCast_nonneg i), if_pos (of_eq_true (lt_t hlt)), if_neg hge, if_pos (of_eq_true (lt_t hlt)), if_pos rfl, hi1]
theorem before_f (L : List Int) (hL : L.length ≤ 1000) : Ev (fun k => laws_before.f k L L) false := before_l L hL L.length 0 rfl (Nat.zero_le _)

theorem l2_f (x y : List Int) (hxl : x.length ≤ 1000) (hyl : y.length ≤ 1000) (hxy : ∀ z ∈ x, z ∈ y) (d : Nat) : ∀ i : Nat, x.length - i = d → i ≤ x.length → Ev (fun k => laws_FnNests.l2 k x y (x.length : Int) (i : Int)) true := by
  induction d with
  | zero =>
    intro i hd hi
    refine Ev.step (f := fun _ => some true) (fun k => ?_) (Ev.now _)
    simp only [laws_FnNests.l2, lt_f (show x.length ≤ i by omega), if_false]
  | succ d ih =>
    intro i hd hi
    have hlt : i < x.length := by omega
    have hi1 := w1 (show i ≤ 140737488355328 by omega)
    have A := ih (i + 1) (by omega) (by omega)
    have B := has_ff x[i] y hyl (hxy _ (List.getElem_mem hlt))
    refine Ev.step (f := fun k => (laws_has.f k y x[i]).bind fun t382 => (if t382 = true then (laws_FnNests.l2 k x y (x.length : Int) ((i + 1 : Nat) : Int)) else (some false))) (fun k => ?_) (Ev.bind B ?_)
    · rw [laws_FnNests.l2, if_pos (of_eq_true (lt_t hlt)), if_pos (Int.natCast_nonneg i), if_pos (of_eq_true (lt_t hlt)), rd_get x i hlt, hi1]
    · simp only [if_true]
      exact A
theorem l1_f (N R M : Nat) (hN : N ≤ 36) (hR : lt2 R N) (hM : lt2 M N) (x y : List Int) (hyl : y.length ≤ 1000) (hy : ∀ z ∈ y, ∃ b : Nat, z = (b : Int) ∧ b ≠ 0 ∧ sub b R ∧ cnt N b = cnt N M) (hya : y.Pairwise (· < ·)) (H : Ev (fun k => laws_FnNests.l2 k x y (x.length : Int) 0) true) (d : Nat) : ∀ i : Nat, y.length - i = d → i ≤ y.length → Ev (fun k => laws_FnNests.l1 k (R : Int) (M : Int) x y (y.length : Int) (i : Int)) true := by
  induction d with
  | zero =>
    intro i hd hi
    refine Ev.step (fun k => ?_) H
    simp only [laws_FnNests.l1, lt_f (show y.length ≤ i by omega), if_false]
  | succ d ih =>
    intro i hd hi
    have hlt : i < y.length := by omega
    have hi1 := w1 (show i ≤ 140737488355328 by omega)
    have A := ih (i + 1) (by omega) (by omega)
    obtain ⟨b, e1, e2, e3, e4⟩ := hy _ (List.getElem_mem hlt)
    have hb := lt2_sub hN hR e3
    have er : rd y (i : Int) = (b : Int) := (rd_get y i hlt).trans e1
    have eo : Go.bits .or .i64 (R : Int) (b : Int) = (R : Int) := by
      rw [i64_or R b (lt2_lt hN hR) (lt2_lt hN hb)]
      congr 1
      refine Nat.eq_of_testBit_eq fun j => ?_
      rw [Nat.testBit_or]
      cases hj : b.testBit j with
      | false => rw [Bool.or_false]
      | true => rw [e3 j hj]; rfl
    have hp : ¬ (b : Int) ≤ 0 := fun h => e2 (by omega)
    have C1 := laws_cells_f N b hN hb
    rw [e4] at C1
    have C2 := laws_cells_f N M hN hM
    refine Ev.step (f := fun k => (laws_cells.f k (b : Int)).bind fun t378 => ((laws_cells.f k (M : Int)).bind fun t379 => (if t378 = t379 then (laws_FnNests.l1 k (R : Int) (M : Int) x y (y.length : Int) ((i + 1 : Nat) : Int)) else (some false)))) (fun k => ?_) (Ev.bind C1 (Ev.bind C2 ?_))
    · rw [laws_FnNests.l1, if_pos (of_eq_true (lt_t hlt)), if_pos (Int.natCast_nonneg i), if_pos (of_eq_true (lt_t hlt)), er, if_neg hp, if_pos eo, hi1]
      by_cases h0 : i = 0
      · have hg : ¬ (i : Int) > 0 := by omega
        simp only [hg, if_false]
      · have hg : (i : Int) > 0 := by omega
        have hj : i - 1 < y.length := by omega
        have hj2 : i - 1 < i := by omega
        have ew : wrap64 ((i : Int) - 1) = ((i - 1 : Nat) : Int) := by rw [w64 (by omega) (by omega)]; omega
        have hlt3 := (List.pairwise_iff_getElem.mp hya) (i - 1) i hj hlt hj2
        rw [e1] at hlt3
        have hn : ¬ (b : Int) ≤ y[i - 1] := Int.not_le.mpr hlt3
        have ej : rd y ((i - 1 : Nat) : Int) = y[i - 1] := rd_get y _ hj
        have hn' : ¬ (b : Int) ≤ rd y ((i - 1 : Nat) : Int) := by rw [ej]; exact hn
        simp only [hg, if_true, ew, nn_t, lt_t hj, hn', if_false]
    · simp only [if_true]
      exact A
section
variable {w h : Nat} (hw : 1 ≤ w) (hw6 : w ≤ 6) (h1 : 1 ≤ h) (hh : h ≤ 6) {l0 : List Int} (hb : l0.length ≤ 1048576)
include hw hw6 h1 hh hb
theorem j4_f (R : Nat) (hR : lt2 R (w * h)) : Ev (fun k => laws_FnNests.j4 k l0 (w : Int) (h : Int) (R : Int)) true := by
  have hN : w * h ≤ 36 := Nat.mul_le_mul hw6 hh
  obtain ⟨M, hM, E1⟩ := makeShape_f hw hw6 h1 hh hb
  have X := layingsF_f hw hw6 h1 hh R M hM.2 hM.1 hR false
  have Y := layingsF_f hw hw6 h1 hh R M hM.2 hM.1 hR true
  have Z := fitshow_f hw hw6 h1 hh R M hM.2 hM.1 hR
  have S := sum_f (fits w h R M) (by simp [fits]) (Nat.le_trans (fits_small w h R M hw6 hh) (by decide))
  have hyf := lays_put hw hw6 hh R M hM.2 hM.1 true
  have hxy := lays_more hw hw6 hh R M
  have hxl := Nat.le_trans (laysOf_facts w h R M hw6 hh false) (show 288 ≤ 1000 by decide)
  have hyl := Nat.le_trans (laysOf_facts w h R M hw6 hh true) (show 288 ≤ 1000 by decide)
  have hya := lays_asc w h R M true
  have hm := fits_many w h R M hw hw6 hh hM.2 hM.1
  have hle := sub_len _ _ (lays_nd w h R M false) hxy
  have hf0 : rd ((fits w h R M).map Int.ofNat) 0 = ((laysOf w h R M false).length : Int) := by
    have e0 : (fits w h R M).map Int.ofNat = (fitN w h R M 0 : Int) :: ((List.range' 1 7).map (fitN w h R M)).map Int.ofNat := rfl
    rw [e0, ← lays_first hw hw6 hh R M hM.2 hM.1]
    show (fitN w h R M 0 : Int) = _
    unfold fitN
    rw [if_pos (mvM0_ok w h M hw hM.2 hM.1)]
  have hlen : ((((fits w h R M).map Int.ofNat).length : Nat) : Int) = 8 := by simp [fits]
  generalize laysOf w h R M false = x at X hxy hxl hle hf0
  generalize laysOf w h R M true = y at Y hyf hxy hyl hya hm hle
  generalize fits w h R M = f at Z S hm hf0 hlen
  have L2 := l2_f x y hxl hyl hxy x.length 0 rfl (Nat.zero_le _)
  have L1 := l1_f (w * h) R M hN hR hM.1 x y hyl (fun z hz => by
    obtain ⟨b, e, hb⟩ := hyf z hz
    exact ⟨b, e, hb.1, hb.2.1, hb.2.2.2⟩) hya L2 y.length 0 rfl (Nat.zero_le _)
  have c1 : ¬ (y.length : Int) < (x.length : Int) := by omega
  have c2 : decide ((y.length : Int) > ((f.sum : Nat) : Int)) = false := decide_eq_false (by omega)
  refine Ev.step (f := fun k => (spec_MakeShape.f k l0 40 (w : Int) (h : Int) 4).bind fun t365 => ((impl_Layings.f k (w : Int) (h : Int) (R : Int) t365 false).bind fun t366 => ((impl_Layings.f k (w : Int) (h : Int) (R : Int) t365 true).bind fun t369 => ((impl_FitsHow.f k (w : Int) (h : Int) (R : Int) t365).bind fun t372 => (if (t372.length : Int) = 8 then (if 0 < (t372.length : Int) then (if (rd t372 0) = (t366.length : Int) then (if (t369.length : Int) < (t366.length : Int) then (laws_FnNests.j5 k (R : Int) t365 t366 t369 true) else ((laws_sum.f k t372).bind fun t376 => (laws_FnNests.j5 k (R : Int) t365 t366 t369 (decide ((t369.length : Int) > t376))))) else (laws_FnNests.j5 k (R : Int) t365 t366 t369 true)) else (none)) else (laws_FnNests.j5 k (R : Int) t365 t366 t369 true)))))) (fun k => by rw [laws_FnNests.j4]) ?_
  refine Ev.bind E1 (Ev.bind X (Ev.bind Y (Ev.bind Z ?_)))
  have h8 : (0 : Int) < 8 := by decide
  simp only [hlen, h8, if_true, hf0, c1, if_false]
  refine Ev.bind S ?_
  simp only [c2]
  refine Ev.step (fun k => ?_) L1
  rw [laws_FnNests.j5, if_neg (by simp)]
  rfl
theorem puts_at (turn : Bool) (ns : List Nat) : ∀ F g, lt2 F (w * h) → Puts w h turn F ns g → ∀ i (hi : i < ns.length) (hj : i < g.length), ∃ F', lt2 F' (w * h) ∧ Put w h F' ns[i] turn g[i] := by
  induction ns with
  | nil => intro F g _ _ i hi; exact absurd hi (by simp)
  | cons M r ih =>
    intro F g hF hp i hi hj
    cases g with
    | nil => exact hp.elim
    | cons b g =>
      cases i with
      | zero => exact ⟨F, hF, hp.1⟩
      | succ i => exact ih _ g (off_lt2 hF) hp.2 i (by simpa using hi) (by simpa using hj)
theorem l0_f (turn : Bool) (ns g a : List Nat) (hns : ∀ M ∈ ns, lt2 M (w * h) ∧ M ≠ 0) (hnl : ns.length ≤ 3) (F : Nat) (hF : lt2 F (w * h)) (hp : Puts w h turn F ns a) (R : Nat) (hR : lt2 R (w * h)) (hga : g.length = ns.length → g = a) (d : Nat) : ∀ i : Nat, a.length - i = d → i ≤ a.length → Ev (fun k => laws_FnNests.l0 k l0 (w : Int) (h : Int) (ns.map Int.ofNat) turn (g.map Int.ofNat) (R : Int) (a.map Int.ofNat) (a.length : Int) (i : Int)) true := by
  have hN : w * h ≤ 36 := Nat.mul_le_mul hw6 hh
  have J := j4_f hw hw6 h1 hh hb R hR
  have hal := (puts_nst w h turn ns F a hp).2
  induction d with
  | zero =>
    intro i hd hi
    by_cases e : g.length = ns.length
    · obtain rfl := hga e
      have B := before_f (g.map Int.ofNat) (by rw [List.length_map]; omega)
      refine Ev.step (f := fun k => (laws_before.f k (g.map Int.ofNat) (g.map Int.ofNat)).bind fun t355 => (if t355 = true then (some false) else (laws_FnNests.j4 k l0 (w : Int) (h : Int) (R : Int)))) (fun k => ?_) (Ev.bind B ?_)
      · have hc : (((g.map Int.ofNat).length : Nat) : Int) = (((ns.map Int.ofNat).length : Nat) : Int) := by rw [List.length_map, List.length_map, e]
        have hlt : ¬ (i : Int) < (g.length : Int) := by omega
        rw [laws_FnNests.l0, if_neg hlt, if_pos hc]
      · simp only [Bool.false_eq_true, if_false]
        exact J
    · refine Ev.step (fun k => ?_) J
      have hc : ¬ (((g.map Int.ofNat).length : Nat) : Int) = (((ns.map Int.ofNat).length : Nat) : Int) := by rw [List.length_map, List.length_map]; exact fun h => e (Int.ofNat.inj h)
      have hlt : ¬ (i : Int) < (a.length : Int) := by omega
      rw [laws_FnNests.l0, if_neg hlt, if_neg hc]
  | succ d ih =>
    intro i hd hi
    have hlt : i < a.length := by omega
    have hltn : i < ns.length := by omega
    have hi1 := w1 (show i ≤ 140737488355328 by omega)
    have A := ih (i + 1) (by omega) (by omega)
    have ea := rd_nats a i hlt
    have en := rd_nats ns i hltn
    have ha2 : (i : Int) < (((a.map Int.ofNat).length : Nat) : Int) := by rw [List.length_map]; exact Int.ofNat_lt.mpr hlt
    have hn2 : (i : Int) < (((ns.map Int.ofNat).length : Nat) : Int) := by rw [List.length_map]; exact Int.ofNat_lt.mpr hltn
    obtain ⟨F', hF', hput⟩ := puts_at hw hw6 h1 hh hb turn ns F a hF hp i hltn hlt
    have hM := hns _ (List.getElem_mem hltn)
    generalize ns[i] = M at en hput hM
    generalize a[i] = b at ea hput
    have hbl := lt2_sub hN hF' hput.2.1
    have C1 := laws_cells_f (w * h) b hN hbl
    rw [hput.2.2.2] at C1
    have C2 := laws_cells_f (w * h) M hN hM.1
    have T : Ev (fun k => if turn = true then ((impl_SamePiece.f k (w : Int) (h : Int) (M : Int) (b : Int)).bind fun t361 => (if t361 = true then (laws_FnNests.l0 k l0 (w : Int) (h : Int) (ns.map Int.ofNat) turn (g.map Int.ofNat) (R : Int) (a.map Int.ofNat) (a.length : Int) ((i + 1 : Nat) : Int)) else (some false))) else ((impl_CornerOf.f k (w : Int) (h : Int) (b : Int)).bind fun t362 => ((impl_CornerOf.f k (w : Int) (h : Int) (M : Int)).bind fun t364 => (if t362 = t364 then (laws_FnNests.l0 k l0 (w : Int) (h : Int) (ns.map Int.ofNat) turn (g.map Int.ofNat) (R : Int) (a.map Int.ofNat) (a.length : Int) ((i + 1 : Nat) : Int)) else (some false))))) true := by
      cases turn with
      | true =>
        simp only [if_true]
        refine Ev.bind (same_f hw hw6 h1 hh F' M b hM.2 hM.1 hbl hput) ?_
        simp only [if_true]
        exact A
      | false =>
        simp only [Bool.false_eq_true, if_false]
        have B1 := corner_ff hw hw6 h1 hh b hput.1 hbl
        rw [corner_same hw hw6 h1 hh F' M b hput] at B1
        refine Ev.bind B1 (Ev.bind (corner_ff hw hw6 h1 hh M hM.2 hM.1) ?_)
        simp only [if_true]
        exact A
    refine Ev.step (f := fun k => (laws_cells.f k (b : Int)).bind fun t357 => ((laws_cells.f k (M : Int)).bind fun t359 => (if t357 = t359 then (if turn = true then ((impl_SamePiece.f k (w : Int) (h : Int) (M : Int) (b : Int)).bind fun t361 => (if t361 = true then (laws_FnNests.l0 k l0 (w : Int) (h : Int) (ns.map Int.ofNat) turn (g.map Int.ofNat) (R : Int) (a.map Int.ofNat) (a.length : Int) ((i + 1 : Nat) : Int)) else (some false))) else ((impl_CornerOf.f k (w : Int) (h : Int) (b : Int)).bind fun t362 => ((impl_CornerOf.f k (w : Int) (h : Int) (M : Int)).bind fun t364 => (if t362 = t364 then (laws_FnNests.l0 k l0 (w : Int) (h : Int) (ns.map Int.ofNat) turn (g.map Int.ofNat) (R : Int) (a.map Int.ofNat) (a.length : Int) ((i + 1 : Nat) : Int)) else (some false))))) else (some false)))) (fun k => ?_) (Ev.bind C1 (Ev.bind C2 ?_))
    · rw [laws_FnNests.l0, if_pos (of_eq_true (lt_t hlt)), if_pos (Int.natCast_nonneg i), if_pos ha2, ea, en, hi1]
      simp only [hn2, if_true]
    · simp only [if_true]
      exact T
end
theorem nestgreedy_f {w h : Nat} (hw : 1 ≤ w) (hw6 : w ≤ 6) (h1 : 1 ≤ h) (hh : h ≤ 6) (turn : Bool) (ns : List Nat) (hns : ∀ M ∈ ns, lt2 M (w * h) ∧ M ≠ 0) (hnl : ns.length ≤ 3) (F0 : Nat) (f1 : wrap64 ((w : Int) * (h : Int)) = ((w * h : Nat) : Int)) (f2 : wrap64 (shl .i64 1 ((w * h : Nat) : Int) - 1) = (F0 : Int)) (f3 : lt2 F0 (w * h)) : Ev (fun k => impl_NestGreedy.f k (w : Int) (h : Int) (ns.map Int.ofNat) turn) ((gr w h turn ns F0).map Int.ofNat) ∧ impl_areShapes.f (w : Int) (h : Int) (ns.map Int.ofNat) = some true := by
  have hns1 : ∀ M ∈ ns, lt2 M (w * h) := fun M hM => (hns M hM).1
  have A := greedy_impl hw hw6 hh turn ns hns1 (by omega) ns.length 0 F0 [] rfl (Nat.zero_le _) f3 (by simp)
  rw [List.drop_zero, (gr_facts hw hw6 hh turn ns F0 hns).1 [], List.nil_append] at A
  have ht : tab (w : Int) (h : Int) = true := by unfold tab; exact decide_eq_true (by omega)
  have hall : ((ns.map Int.ofNat).all fun m => shapeOk (w : Int) (h : Int) m) = true := by
    rw [List.all_eq_true]
    intro m hm
    obtain ⟨M, hM, rfl⟩ := List.mem_map.mp hm
    exact shapeOk_nat hw hw6 h1 hh M (hns1 M hM)
  have es : impl_areShapes.f (w : Int) (h : Int) (ns.map Int.ofNat) = some true := by rw [areShapes_f, ht, hall]; rfl
  refine ⟨Ev.step (fun k => ?_) A, es⟩
  have hl : ¬ (((ns.map Int.ofNat).length : Nat) : Int) > 12 := by rw [List.length_map]; omega
  unfold impl_NestGreedy.f
  rw [if_neg hl, es, Option.bind_some, impl_NestGreedy.j0, if_neg (by simp), f1, if_pos (Int.natCast_nonneg _), f2, List.length_map]
  rfl
theorem nestall_f {w h : Nat} (hw : 1 ≤ w) (hw6 : w ≤ 6) (hh : h ≤ 6) (turn : Bool) (ns : List Nat) (hns : ∀ M ∈ ns, lt2 M (w * h) ∧ M ≠ 0) (hnl : ns.length ≤ 3) (h16 : w * h ≤ 16) (es : impl_areShapes.f (w : Int) (h : Int) (ns.map Int.ofNat) = some true) (F0 : Nat) (f1 : wrap64 ((w : Int) * (h : Int)) = ((w * h : Nat) : Int)) (f2 : wrap64 (shl .i64 1 ((w * h : Nat) : Int) - 1) = (F0 : Int)) (f3 : lt2 F0 (w * h)) : Ev (fun k => impl_NestAll.f k (w : Int) (h : Int) (ns.map Int.ofNat) turn) (((allN w h turn ns F0).head?).getD [], ((allN w h turn ns F0).head?).isSome) ∧ Ev (fun k => impl_CountNests.f k (w : Int) (h : Int) (ns.map Int.ofNat) turn) ((min (allN w h turn ns F0).length 5000 : Nat) : Int) := by
  have B1 := en_all hw hw6 hh turn naVis ns hns (by omega) ns.length [] F0 none rfl (Nat.zero_le _) f3
  have B2 := en_all hw hw6 hh turn cnVis ns hns (by omega) ns.length [] F0 (0 : Int) rfl (Nat.zero_le _) f3
  rw [List.length_nil, List.drop_zero] at B1 B2
  have em : (allN w h turn ns F0).map (([] : List Int) ++ ·) = allN w h turn ns F0 := by simp
  rw [em] at B1 B2
  have hr1 := run_first (allN w h turn ns F0)
  have hr2 := run_count (allN w h turn ns F0) 0 (by decide)
  rw [Nat.zero_add] at hr2
  have hl : ¬ (ns.map Int.ofNat).length > 5 := by rw [List.length_map]; omega
  have h16' : ¬ ((w * h : Nat) : Int) > 16 := by omega
  have hc : decide ((0 : Int) ∈ ns.map Int.ofNat) = false := decide_eq_false fun hm => by
    obtain ⟨M, hM, e⟩ := List.mem_map.mp hm
    exact (hns M hM).2 (Int.ofNat.inj e)
  have C := contains_f (ns.map Int.ofNat) (by rw [List.length_map]; omega)
  rw [hc] at C
  constructor
  · refine Ev.congr (f := fun k => (slices_Contains_int_int.f k (ns.map Int.ofNat) 0).bind fun c => if c = true then some ([], false) else ((en.lay naVis k (w : Int) (h : Int) turn (ns.map Int.ofNat) (F0 : Int) [] none).bind fun t => some (t.2.getD [], t.2.isSome))) (fun k => ?_) (Ev.bind C ?_)
    · unfold impl_NestAll.f
      rw [if_neg hl, es, Option.bind_some, if_pos rfl, f1, if_neg h16', if_pos (Int.natCast_nonneg _), f2]
    · simp only [Bool.false_eq_true, if_false]
      refine Ev.bind B1 ?_
      rw [← hr1]
      exact Ev.now _
  · refine Ev.congr (f := fun k => (slices_Contains_int_int.f k (ns.map Int.ofNat) 0).bind fun c => if c = true then some (-1) else ((en.lay cnVis k (w : Int) (h : Int) turn (ns.map Int.ofNat) (F0 : Int) [] 0).bind fun t => some t.2)) (fun k => ?_) (Ev.bind C ?_)
    · unfold impl_CountNests.f
      rw [if_neg hl, es, Option.bind_some, if_pos rfl, f1, if_neg h16', if_pos (Int.natCast_nonneg _), f2]
    · simp only [Bool.false_eq_true, if_false]
      refine Ev.bind B2 ?_
      rw [← hr2]
      exact Ev.now _
theorem FnNests : laws_FnNests.Pure := by
  intro l0 _ _ _
  refine Ev.rounds (g := fun k => laws_FnNests.f k l0) ?_
  by_cases hl : (l0.length : Int) > 1048576
  · refine Ev.congr (fun k => ?_) (Ev.now true)
    unfold laws_FnNests.f
    rw [if_pos hl]
  · have hb : l0.length ≤ 1048576 := by omega
    obtain ⟨w, h, ns, ⟨hw2, hw4, hh2, hh4, hnl, hns⟩, E1⟩ := makeShapes_f hb
    obtain ⟨t, E2⟩ := makeSize_f hb
    have hw : 1 ≤ w := by omega
    have hw6 : w ≤ 6 := by omega
    have h1 : 1 ≤ h := by omega
    have hh : h ≤ 6 := by omega
    have h16 : w * h ≤ 16 := Nat.mul_le_mul hw4 hh4
    have hN : w * h ≤ 36 := Nat.mul_le_mul hw6 hh
    obtain ⟨f1, F0, f2, f3⟩ := full_free' w h hw6 hh
    refine Ev.congr (f := fun k => (spec_MakeShapes.f k l0 0 3).bind fun bt337 => ((spec_MakeSize.f k l0 30 0 1).bind fun t342 => ((impl_NestGreedy.f k bt337.1 bt337.2.1 bt337.2.2 (t342 == 1)).bind fun t343 => ((impl_FreeOf.f k bt337.1 bt337.2.1 t343).bind fun t346 => ((impl_NestOk.f k bt337.1 bt337.2.1 t343).bind fun t347 => (if t347 = true then (if (t343.length : Int) > (bt337.2.2.length : Int) then (laws_FnNests.j0 k l0 bt337.1 bt337.2.1 bt337.2.2 (t342 == 1) t343 t346 true) else (if t346 < 0 then (laws_FnNests.j0 k l0 bt337.1 bt337.2.1 bt337.2.2 (t342 == 1) t343 t346 true) else ((laws_sum.f k t343).bind fun t348 => (if 0 ≤ (wrap64 (bt337.1 * bt337.2.1)) then (laws_FnNests.j0 k l0 bt337.1 bt337.2.1 bt337.2.2 (t342 == 1) t343 t346 ((wrap64 (t346 + t348)) != (wrap64 ((shl .i64 1 (wrap64 (bt337.1 * bt337.2.1))) - 1)))) else (none))))) else (laws_FnNests.j0 k l0 bt337.1 bt337.2.1 bt337.2.2 (t342 == 1) t343 t346 true))))))) (fun k => ?_) ?_
    · unfold laws_FnNests.f
      rw [if_neg hl]
    · refine Ev.bind E1 (Ev.bind E2 ?_)
      generalize (t == 1) = turn
      obtain ⟨g1, g2, g3, g4⟩ := gr_facts hw hw6 hh turn ns F0 hns
      obtain ⟨E3, es⟩ := nestgreedy_f hw hw6 h1 hh turn ns hns hnl F0 f1 f2 f3
      obtain ⟨N1, N2⟩ := nestall_f hw hw6 hh turn ns hns hnl h16 es F0 f1 f2 f3
      have hall := all_puts hw hw6 hh turn ns F0 hns
      clear g1
      generalize gr w h turn ns F0 = g at E3 g2 g3 g4
      generalize allN w h turn ns F0 = all at N1 N2 g4 hall
      have hgl : g.length ≤ 12 := by omega
      obtain ⟨R, r1, r2, E4⟩ := freeof_f hw hw6 h1 hh g hgl F0 f1 f2 f3 g2
      have E5 := nestok_f hw hw6 h1 hh g hgl F0 f3 g2
      have hF := lt2_lt hN f3
      have hF36 : F0 ≤ 68719476736 := Nat.le_trans (Nat.le_of_lt f3) (Nat.le_trans (Nat.pow_le_pow_right (by decide) hN) (by decide))
      have hgs : g.sum ≤ F0 := by rw [← r2]; exact Nat.le_add_left _ _
      have hgs2 : g.sum ≤ 4611686018427387904 := Nat.le_trans hgs (Nat.le_trans hF36 (by decide))
      have E6 := sum_f g (Nat.le_trans hgl (by decide)) hgs2
      refine Ev.bind E3 (Ev.bind E4 (Ev.bind E5 ?_))
      have k1 : ¬ (((g.map Int.ofNat).length : Nat) : Int) > (((ns.map Int.ofNat).length : Nat) : Int) := by rw [List.length_map, List.length_map]; omega
      have k2 : ¬ (R : Int) < 0 := by omega
      simp only [if_true, k1, if_false, k2]
      refine Ev.bind E6 ?_
      have k3 : wrap64 ((R : Int) + ((g.sum : Nat) : Int)) = (F0 : Int) := by rw [← Int.natCast_add, r2, w64n _ (by omega)]
      have k4 : ((F0 : Int) != (F0 : Int)) = false := by simp
      simp only [f1, nn_t, if_true, f2, k3, k4]
      -- the law's second half
      have J4 := j4_f hw hw6 h1 hh hb R r1
      refine Ev.step (f := fun k => (impl_NestAll.f k (w : Int) (h : Int) (ns.map Int.ofNat) turn).bind fun bt349 => ((impl_CountNests.f k (w : Int) (h : Int) (ns.map Int.ofNat) turn).bind fun t353 => (if (bt349.2 != (decide (t353 > 0))) = true then (laws_FnNests.j1 k l0 (w : Int) (h : Int) (ns.map Int.ofNat) turn (g.map Int.ofNat) (R : Int) bt349.1 bt349.2 true) else (if t353 < 0 then (laws_FnNests.j1 k l0 (w : Int) (h : Int) (ns.map Int.ofNat) turn (g.map Int.ofNat) (R : Int) bt349.1 bt349.2 true) else (if t353 > 5000 then (laws_FnNests.j1 k l0 (w : Int) (h : Int) (ns.map Int.ofNat) turn (g.map Int.ofNat) (R : Int) bt349.1 bt349.2 true) else (if (((g.map Int.ofNat).length : Nat) : Int) = (((ns.map Int.ofNat).length : Nat) : Int) then (laws_FnNests.j1 k l0 (w : Int) (h : Int) (ns.map Int.ofNat) turn (g.map Int.ofNat) (R : Int) bt349.1 bt349.2 (!bt349.2)) else (laws_FnNests.j1 k l0 (w : Int) (h : Int) (ns.map Int.ofNat) turn (g.map Int.ofNat) (R : Int) bt349.1 bt349.2 false))))))) (fun k => ?_) (Ev.bind N1 (Ev.bind N2 ?_))
      · rw [laws_FnNests.j0, if_neg (by simp)]
      · cases all with
        | nil =>
          have hne : ¬ (((g.map Int.ofNat).length : Nat) : Int) = (((ns.map Int.ofNat).length : Nat) : Int) := by
            rw [List.length_map, List.length_map]
            intro e
            obtain ⟨rest, hr⟩ := g4 (Int.ofNat.inj e)
            exact absurd hr (by simp)
          have J1 : Ev (fun k => laws_FnNests.j1 k l0 (w : Int) (h : Int) (ns.map Int.ofNat) turn (g.map Int.ofNat) (R : Int) [] false false) true :=
            Ev.step (fun k => by rw [laws_FnNests.j1, if_neg (by simp), if_neg (by simp)]) J4
          have d1 : decide (((0 : Nat) : Int) > 0) = false := decide_eq_false (by omega)
          have d2 : ¬ ((0 : Nat) : Int) < 0 := by omega
          have d3 : ¬ ((0 : Nat) : Int) > 5000 := by omega
          simp only [hne, if_false, List.head?_nil, Option.getD_none, Option.isSome_none, List.length_nil, Nat.zero_min, d1, d2, d3, bne_self_eq_false, Bool.false_eq_true]
          exact J1
        | cons a rest =>
          obtain ⟨ga, rfl, hp⟩ := hall a (by simp)
          obtain ⟨pn, pl⟩ := puts_nst w h turn ns F0 ga hp
          have hga : g.length = ns.length → g = ga := fun e => by
            obtain ⟨rest', hr⟩ := g4 e
            have := (List.cons.inj hr).1
            exact ((List.map_inj_right (fun _ _ e => Int.ofNat.inj e)).mp this).symm
          have L0 := l0_f hw hw6 h1 hh hb turn ns g ga hns hnl F0 f3 hp R r1 hga ga.length 0 rfl (Nat.zero_le _)
          have E7 := nestok_f hw hw6 h1 hh ga (by omega) F0 f3 pn
          have hm0 : 0 < min ((ga.map Int.ofNat :: rest).length) 5000 := Nat.lt_min.mpr ⟨by rw [List.length_cons]; exact Nat.succ_pos _, by decide⟩
          have hm1 : min ((ga.map Int.ofNat :: rest).length) 5000 ≤ 5000 := Nat.min_le_right _ _
          generalize min ((ga.map Int.ofNat :: rest).length) 5000 = c at hm0 hm1
          have d1 : decide ((c : Int) > 0) = true := decide_eq_true (Int.ofNat_lt.mpr hm0)
          have d2 : ¬ (c : Int) < 0 := by omega
          have d3 : ¬ (c : Int) > 5000 := by omega
          have J1 : Ev (fun k => laws_FnNests.j1 k l0 (w : Int) (h : Int) (ns.map Int.ofNat) turn (g.map Int.ofNat) (R : Int) (ga.map Int.ofNat) true false) true := by
            have hlen : (((ga.map Int.ofNat).length : Nat) : Int) = (((ns.map Int.ofNat).length : Nat) : Int) := by rw [List.length_map, List.length_map, pl]
            refine Ev.step (f := fun k => (impl_NestOk.f k (w : Int) (h : Int) (ga.map Int.ofNat)).bind fun t354 => (laws_FnNests.j2 k l0 (w : Int) (h : Int) (ns.map Int.ofNat) turn (g.map Int.ofNat) (R : Int) (ga.map Int.ofNat) (!t354))) (fun k => ?_) (Ev.bind E7 ?_)
            · rw [laws_FnNests.j1, if_neg (by simp), if_pos rfl, if_pos hlen]
            · refine Ev.step (fun k => ?_) L0
              rw [laws_FnNests.j2, if_neg (by simp), List.length_map]
              rfl
          simp only [List.head?_cons, Option.getD_some, Option.isSome_some, d1, d2, d3, if_false, bne_self_eq_false, Bool.false_eq_true, Bool.not_true, ite_self]
          exact J1

end Go.Proofs.Ytpnngdljfnhnfaa.Pure
