/- RectangleSides: both texts divide the same numbers by the same divisor. -/
import Derived.Test.YtmokeeakgacadaaXFnExactRectangleSidesx9
namespace Go.Proofs.Ytmokeeakgacadaa.Pure
open Go.RowKit Go.Proofs.Ytmokeeakgacadaa.XFnExactRectangleSides Go.Proofs.YtmokeeakgacadaaW.PrintWords Go.Proofs.YtmokeeakgacadaaW.PrintLast
set_option linter.unusedVariables false
set_option linter.unusedSimpArgs false
theorem wf64 {x : Int} (h : (Lit.int .i64 x).wf = true) : -9223372036854775808 ≤ x ∧ x ≤ 9223372036854775807 := by
  simp only [Lit.wf, IntKind.min, IntKind.max, IntKind.signed, IntKind.bits, Bool.and_eq_true, decide_eq_true_eq, if_true] at h
  omega
theorem w64 {x : Int} (h0 : -9223372036854775808 ≤ x) (h1 : x ≤ 9223372036854775807) : wrap64 x = x := by
  unfold wrap64
  omega
theorem succ_of {d k : Nat} (h : d < k) : ∃ m, k = m + 1 := ⟨k - 1, by omega⟩
theorem rd_nat (l : List Int) (i : Nat) : rd l (i : Int) = l.getD i 0 := by simp [rd]
theorem rd_get (l : List Int) (i : Nat) (h : i < l.length) : rd l (i : Int) = l[i] := by simp [rd, List.getD_eq_getElem?_getD, h]
theorem w1 {i : Nat} (h : i ≤ 140737488355328) : wrap64 ((i : Int) + 1) = ((i + 1 : Nat) : Int) := by
  unfold wrap64
  omega
theorem lt_t {i n : Nat} (h : i < n) : ((i : Int) < (n : Int)) = True := eq_true (by omega)
theorem lt_f {i n : Nat} (h : n ≤ i) : ((i : Int) < (n : Int)) = False := eq_false (by omega)
theorem nn_t (i : Nat) : (0 ≤ (i : Int)) = True := eq_true (by omega)
theorem w64n (n : Nat) (h : n ≤ 9223372036854775807) : wrap64 (n : Int) = (n : Int) := w64 (by omega) (by omega)
theorem w64sub (a b c : Nat) (ha : a ≤ 9223372036854775807) (h : a = b + c) : wrap64 ((a : Int) - (b : Int)) = (c : Int) := by
  rw [w64 (by omega) (by omega)]
  omega

theorem toIntS_l (l : List Int) (hl : l.length ≤ 35184372088832) (d : Nat) : ∀ (k : Nat) (ys : List Int) (i : Nat), l.length - i = d → i ≤ l.length → ys.length = l.length → ys.take i = l.take i → d < k → laws_toIntS.l0 k l ys (i : Int) = some l := by
  induction d with
  | zero =>
    intro k ys i hd hi hy ht hk
    obtain ⟨k, rfl⟩ := succ_of hk
    simp only [laws_toIntS.l0]
    rw [if_neg (by omega)]
    have : i = l.length := by omega
    subst this
    rw [List.take_length, ← hy, List.take_length] at ht
    rw [ht]
  | succ d ih =>
    intro k ys i hd hi hy ht hk
    obtain ⟨k, rfl⟩ := succ_of hk
    simp only [laws_toIntS.l0]
    rw [if_pos (by omega), if_pos (by omega), if_pos (by omega), w1 (by omega), rd_get l i (by omega)]
    refine ih k _ (i + 1) (by omega) (by omega) (by simp [hy]) ?_ (by omega)
    rw [Int.toNat_natCast, List.take_add_one, List.take_add_one, List.take_set_of_le (Nat.le_refl _), ht]
    simp [hy, show i < l.length by omega]
theorem toIntS (l : List Int) (hl : l.length ≤ 35184372088832) (k : Nat) (hk : l.length < k) : laws_toIntS.f k l = some l := by
  unfold laws_toIntS.f
  rw [if_pos (by omega), if_pos (by omega)]
  exact toIntS_l l hl l.length k _ 0 (by omega) (by omega) (by simp) rfl hk
theorem eqIntS_l (l m : List Int) (hl : l.length ≤ 35184372088832) (he : l.length = m.length) (d : Nat) : ∀ (k : Nat) (i : Nat), l.length - i = d → i ≤ l.length → d < k → laws_eqIntS.l0 k l m (i : Int) = some (decide (l.drop i = m.drop i)) := by
  induction d with
  | zero =>
    intro k i hd hi hk
    obtain ⟨k, rfl⟩ := succ_of hk
    simp only [laws_eqIntS.l0]
    rw [if_neg (by omega), List.drop_of_length_le (by omega), List.drop_of_length_le (by omega)]
    simp
  | succ d ih =>
    intro k i hd hi hk
    obtain ⟨k, rfl⟩ := succ_of hk
    simp only [laws_eqIntS.l0]
    rw [if_pos (by omega), if_pos (by omega), if_pos (by omega), w1 (by omega), rd_get l i (by omega), rd_get m i (by omega), ih k (i + 1) (by omega) (by omega) (by omega)]
    have h1 := List.drop_eq_getElem_cons (show i < l.length by omega)
    have h2 := List.drop_eq_getElem_cons (show i < m.length by omega)
    by_cases e : l[i]'(by omega) = m[i]'(by omega)
    · rw [if_pos e, h1, h2]
      simp only [List.cons.injEq, e, true_and]
    · rw [if_neg e, h1, h2]
      simp only [List.cons.injEq, e, false_and, decide_false]
theorem eqIntS (l m : List Int) (hl : l.length ≤ 35184372088832) (k : Nat) (hk : l.length < k) : laws_eqIntS.f k l m = some (decide (l = m)) := by
  unfold laws_eqIntS.f
  by_cases e : l.length = m.length
  · rw [if_pos (by omega)]
    have := eqIntS_l l m hl e l.length k 0 (by omega) (by omega) hk
    simpa using this
  · rw [if_neg (by omega)]
    have : l ≠ m := fun h => e (by rw [h])
    simp [this]

theorem within_f (a b c : Int) : impl_within.f a b c = some (decide (b ≤ a ∧ a ≤ c)) := by
  unfold impl_within.f
  by_cases h : a ≥ b
  · rw [if_pos h]; simp [show b ≤ a from h]
  · rw [if_neg h]; simp [show ¬ b ≤ a from h]
theorem l01In_f (a b c : Int) : spec_l01In.f a b c = some (decide (b ≤ a ∧ a ≤ c)) := by
  unfold spec_l01In.f
  by_cases h : a ≥ b
  · rw [if_pos h]; simp [show b ≤ a from h]
  · rw [if_neg h]; simp [show ¬ b ≤ a from h]

theorem rdL_get (l : List (List Int)) (i : Nat) (h : i < l.length) : rd_L1 l (i : Int) = l[i] := by simp [rd_L1, List.getD_eq_getElem?_getD, h]
theorem maxLen_le {n : Nat} (h : n ≤ maxLen) : n ≤ 9223372036854775807 := by unfold maxLen at h; exact h
theorem szS_f (x : List Int) (hx : x.length ≤ maxLen) (left : Int) (h0 : 0 ≤ left) (h1 : left ≤ 1048576) : laws_szIntS.f x left = some (if (x.length : Int) ≤ left then left - (x.length : Int) else -1) := by
  have := maxLen_le hx
  unfold laws_szIntS.f
  rw [w64 (by omega) (by omega)]
  by_cases h : (x.length : Int) ≤ left
  · rw [if_neg (by omega), if_pos h]
  · rw [if_pos (by omega), if_neg h]
theorem szSS_l (l : List (List Int)) (hl : l.length ≤ 1048576) (hx : ∀ x ∈ l, x.length ≤ maxLen) (d : Nat) : ∀ (k i : Nat) (left : Int), l.length - i = d → i ≤ l.length → d < k → 0 ≤ left → left ≤ 1048576 → ∃ r, laws_szIntSS.l0 k l left (i : Int) = some r ∧ (0 ≤ r → ∀ (j : Nat) (hj : j < l.length), i ≤ j → (l[j]).length ≤ 1048576) := by
  induction d with
  | zero =>
    intro k i left hd hi hk h0 h1
    obtain ⟨k, rfl⟩ := succ_of hk
    refine ⟨left, ?_, fun _ j hj hij => by omega⟩
    simp only [laws_szIntSS.l0, lt_f (show l.length ≤ i by omega), if_false]
  | succ d ih =>
    intro k i left hd hi hk h0 h1
    obtain ⟨k, rfl⟩ := succ_of hk
    have hlt : i < l.length := by omega
    simp only [laws_szIntSS.l0, lt_t hlt, nn_t, if_true, rdL_get l i hlt, szS_f _ (hx _ (List.getElem_mem hlt)) left h0 h1, Option.bind_some, w1 (show i ≤ 140737488355328 by omega)]
    by_cases h : ((l[i]).length : Int) ≤ left
    · rw [if_pos h, if_neg (by omega)]
      obtain ⟨r, h2, h3⟩ := ih k (i + 1) (left - ((l[i]).length : Int)) (by omega) (by omega) (by omega) (by omega) (by omega)
      refine ⟨r, h2, fun hr j hj hij => ?_⟩
      by_cases e : j = i
      · subst e; omega
      · exact h3 hr j hj (by omega)
    · rw [if_neg h]
      exact ⟨-1, by simp, fun h => by omega⟩
theorem szSS (l : List (List Int)) (hm : l.length ≤ maxLen) (hx : ∀ x ∈ l, x.length ≤ maxLen) (k : Nat) (hk : 1048577 < k) : ∃ r, laws_szIntSS.f k l 1048576 = some r ∧ (0 ≤ r → l.length ≤ 1048576 ∧ ∀ x ∈ l, x.length ≤ 1048576) := by
  have := maxLen_le hm
  unfold laws_szIntSS.f
  rw [w64 (by omega) (by omega)]
  by_cases h : (l.length : Int) ≤ 1048576
  · rw [if_neg (by omega)]
    obtain ⟨r, h1, h2⟩ := szSS_l l (by omega) hx l.length k 0 (1048576 - (l.length : Int)) (by omega) (by omega) (by omega) (by omega) (by omega)
    refine ⟨r, h1, fun hr => ⟨by omega, fun x hx => ?_⟩⟩
    obtain ⟨j, hj, rfl⟩ := List.getElem_of_mem hx
    exact h2 hr j hj (by omega)
  · rw [if_pos (by omega)]
    exact ⟨-1, rfl, fun h => by omega⟩
theorem toIntSS_l (l : List (List Int)) (hl : l.length ≤ 1048576) (hx : ∀ x ∈ l, x.length ≤ 1048576) (d : Nat) : ∀ (k : Nat) (ys : List (List Int)) (i : Nat), l.length - i = d → i ≤ l.length → ys.length = l.length → ys.take i = l.take i → d + 1048577 < k → laws_toIntSS.l0 k l ys (i : Int) = some l := by
  induction d with
  | zero =>
    intro k ys i hd hi hy ht hk
    obtain ⟨k, rfl⟩ := succ_of (show 0 < k by omega)
    simp only [laws_toIntSS.l0, lt_f (show l.length ≤ i by omega), if_false]
    have : i = l.length := by omega
    subst this
    rw [List.take_length, ← hy, List.take_length] at ht
    rw [ht]
  | succ d ih =>
    intro k ys i hd hi hy ht hk
    obtain ⟨k, rfl⟩ := succ_of (show 0 < k by omega)
    have hlt : i < l.length := by omega
    have hx1 := hx _ (List.getElem_mem hlt)
    simp only [laws_toIntSS.l0, lt_t hlt, nn_t, if_true, rdL_get l i hlt, toIntS _ (show (l[i]).length ≤ 35184372088832 by omega) k (by omega), Option.bind_some, lt_t (show i < ys.length by omega), w1 (show i ≤ 140737488355328 by omega)]
    refine ih k _ (i + 1) (by omega) (by omega) (by simp [hy]) ?_ (by omega)
    rw [Int.toNat_natCast, List.take_add_one, List.take_add_one, List.take_set_of_le (Nat.le_refl _), ht]
    simp [hy, hlt]
theorem toIntSS (l : List (List Int)) (hl : l.length ≤ 1048576) (hx : ∀ x ∈ l, x.length ≤ 1048576) (k : Nat) (hk : l.length + 1048577 < k) : laws_toIntSS.f k l = some l := by
  unfold laws_toIntSS.f
  rw [if_pos (by omega), if_pos (by omega)]
  exact toIntSS_l l hl hx l.length k _ 0 (by omega) (by omega) (by simp) rfl hk
theorem eqIntSS_self_l (l : List (List Int)) (hl : l.length ≤ 1048576) (hx : ∀ x ∈ l, x.length ≤ 1048576) (d : Nat) : ∀ (k i : Nat), l.length - i = d → i ≤ l.length → d + 1048577 < k → laws_eqIntSS.l0 k l l (i : Int) = some true := by
  induction d with
  | zero =>
    intro k i hd hi hk
    obtain ⟨k, rfl⟩ := succ_of (show 0 < k by omega)
    simp only [laws_eqIntSS.l0, lt_f (show l.length ≤ i by omega), if_false]
  | succ d ih =>
    intro k i hd hi hk
    obtain ⟨k, rfl⟩ := succ_of (show 0 < k by omega)
    have hlt : i < l.length := by omega
    have hx1 := hx _ (List.getElem_mem hlt)
    simp only [laws_eqIntSS.l0, lt_t hlt, nn_t, if_true, rdL_get l i hlt, eqIntS _ _ (show (l[i]).length ≤ 35184372088832 by omega) k (show (l[i]).length < k by omega), Option.bind_some, w1 (show i ≤ 140737488355328 by omega), decide_true]
    exact ih k (i + 1) (by omega) (by omega) (by omega)
theorem eqIntSS_self (l : List (List Int)) (hl : l.length ≤ 1048576) (hx : ∀ x ∈ l, x.length ≤ 1048576) (k : Nat) (hk : l.length + 1048577 < k) : laws_eqIntSS.f k l l = some true := by
  unfold laws_eqIntSS.f
  rw [if_pos rfl]
  exact eqIntSS_self_l l hl hx l.length k 0 (by omega) (by omega) hk

theorem wrap_i64 (n : Int) : IntKind.i64.wrap n = wrap64 n := by
  simp only [IntKind.wrap, IntKind.bits, IntKind.signed, wrap64, Bool.true_and, decide_eq_true_eq, ge_iff_le]
  split <;> omega
theorem ofInt_i64 (a : Nat) (ha : a < 18446744073709551616) : (BitVec.ofInt 64 (a : Int)).toNat = a := by
  rw [BitVec.ofInt_natCast, BitVec.toNat_ofNat]; exact Nat.mod_eq_of_lt (by omega)
theorem i64_and (a b : Nat) (ha : a < 9223372036854775808) (hb : b < 9223372036854775808) : Go.bits .and .i64 (a : Int) (b : Int) = ((a &&& b : Nat) : Int) := by
  have hx : a &&& b < 2 ^ 63 := Nat.and_lt_two_pow _ (by omega)
  show IntKind.i64.wrap ((BitVec.ofInt 64 (a : Int) &&& BitVec.ofInt 64 (b : Int)).toNat : Int) = _
  rw [BitVec.toNat_and, ofInt_i64 a (by omega), ofInt_i64 b (by omega), wrap_i64, w64 (by omega) (by omega)]
theorem i64_or (a b : Nat) (ha : a < 9223372036854775808) (hb : b < 9223372036854775808) : Go.bits .or .i64 (a : Int) (b : Int) = ((a ||| b : Nat) : Int) := by
  have hx : a ||| b < 2 ^ 63 := Nat.or_lt_two_pow (by omega) (by omega)
  show IntKind.i64.wrap ((BitVec.ofInt 64 (a : Int) ||| BitVec.ofInt 64 (b : Int)).toNat : Int) = _
  rw [BitVec.toNat_or, ofInt_i64 a (by omega), ofInt_i64 b (by omega), wrap_i64, w64 (by omega) (by omega)]
/-- a &^ b -/
def andn (a b : Nat) : Nat := a &&& (18446744073709551615 - b)
theorem i64_andNot (a b : Nat) (ha : a < 9223372036854775808) (hb : b < 9223372036854775808) : Go.bits .andNot .i64 (a : Int) (b : Int) = ((andn a b : Nat) : Int) := by
  have hx : andn a b ≤ a := Nat.and_le_left
  show IntKind.i64.wrap ((BitVec.ofInt 64 (a : Int) &&& ~~~BitVec.ofInt 64 (b : Int)).toNat : Int) = _
  rw [BitVec.toNat_and, BitVec.toNat_not, ofInt_i64 a (by omega), ofInt_i64 b (by omega), wrap_i64]
  have e : 2 ^ 64 - 1 - b = 18446744073709551615 - b := by omega
  rw [e, w64]
  · rfl
  · omega
  · have : a &&& (18446744073709551615 - b) ≤ a := Nat.and_le_left
    omega
theorem testBit_andn (a b i : Nat) (ha : a < 18446744073709551616) (hb : b < 18446744073709551616) : (andn a b).testBit i = (a.testBit i && !b.testBit i) := by
  unfold andn
  rw [Nat.testBit_and]
  have := Nat.testBit_two_pow_sub_succ (n := 64) (x := b) (by omega) i
  rw [show (18446744073709551615 - b) = 2 ^ 64 - (b + 1) by omega, this]
  by_cases h : i < 64
  · simp [h]
  · have : a.testBit i = false := Nat.testBit_lt_two_pow (Nat.lt_of_lt_of_le ha (by rw [show 18446744073709551616 = 2 ^ 64 by rfl]; exact Nat.pow_le_pow_right (by omega) (by omega)))
    simp [this]
theorem shl_one (n : Nat) (hn : n ≤ 62) : shl .i64 1 (n : Int) = ((2 ^ n : Nat) : Int) := by
  have h1 : (2 : Nat) ^ n ≤ 2 ^ 62 := Nat.pow_le_pow_right (by omega) hn
  unfold shl
  rw [Int.toNat_natCast, show IntKind.i64.bits = 64 from rfl, Nat.min_eq_left (by omega), wrap_i64, w64]
  · simp
  · have : (0 : Int) ≤ 1 * 2 ^ n := by rw [Int.one_mul]; exact Int.pow_nonneg (by omega)
    omega
  · have : (1 * 2 ^ n : Int) = ((2 ^ n : Nat) : Int) := by simp
    rw [this]
    omega

theorem rd_map {f : Int → Int} {s : List Int} {n : Int} (h0 : 0 ≤ n) (h1 : n < (s.length : Int)) : rd (s.map f) n = f (rd s n) := by
  obtain ⟨m, rfl⟩ := Int.eq_ofNat_of_zero_le h0
  rw [rd_get _ _ (by rw [List.length_map]; omega), rd_get _ _ (by omega), List.getElem_map]
theorem i64_and1 (n : Int) : Go.bits .and .i64 n 1 = n % 2 := by
  have h1 : (BitVec.ofInt 64 1).toNat = 2 ^ 1 - 1 := by decide
  have key : (BitVec.ofInt 64 n &&& BitVec.ofInt 64 1).toNat = (n % ((2 ^ 64 : Nat) : Int)).toNat % 2 ^ 1 := by
    rw [BitVec.toNat_and, BitVec.toNat_ofInt, h1, Nat.and_two_pow_sub_one_eq_mod]
  show IntKind.i64.wrap ((BitVec.ofInt 64 n &&& BitVec.ofInt 64 1).toNat : Nat) = n % 2
  rw [key, wrap_i64]
  unfold wrap64
  omega
def repl (old new : Int) (L : List Int) : List Int := L.map fun p => if p = old then new else p
theorem repl_length (old new : Int) (L : List Int) : (repl old new L).length = L.length := by simp [repl]
theorem rd_repl {old new : Int} {L : List Int} {n : Int} (h0 : 0 ≤ n) (h1 : n < (L.length : Int)) : rd (repl old new L) n = if rd L n = old then new else rd L n := by
  unfold repl
  rw [rd_map h0 h1]
/-- what stands after i elements have been gone through -/
theorem repl_step {old new : Int} {L : List Int} {i : Nat} (hi : i < L.length) : (repl old new (L.take i) ++ L.drop i).set i (if L[i] = old then new else L[i]) = repl old new (L.take (i + 1)) ++ L.drop (i + 1) := by
  have hl : (repl old new (L.take i)).length = i := by rw [repl_length, List.length_take]; omega
  have hs : repl old new (L.take (i + 1)) = repl old new (L.take i) ++ [if L[i] = old then new else L[i]] := by
    unfold repl
    rw [← List.take_append_getElem hi, List.map_append]
    rfl
  rw [List.set_append_right _ _ (by omega), hl, Nat.sub_self, List.drop_eq_getElem_cons hi, List.set_cons_zero, hs, List.append_assoc]
  rfl
theorem set_same {L : List Int} {i : Nat} {x : Int} (h : i < L.length) (hx : rd L (i : Int) = x) : L.set i x = L := by
  rw [← hx, rd_get L i h]
  exact List.set_getElem_self h
theorem repl_at {old new : Int} {L : List Int} {i : Nat} (hi : i < L.length) (j : Int) (h0 : (i : Int) ≤ j) (h1 : j < (L.length : Int)) : rd (repl old new (L.take i) ++ L.drop i) j = rd L j := by
  obtain ⟨m, rfl⟩ := Int.eq_ofNat_of_zero_le (show 0 ≤ j by omega)
  have hl : (repl old new (L.take i)).length = i := by rw [repl_length, List.length_take]; omega
  rw [rd_get _ _ (by simp [hl]; omega), rd_get _ _ (by omega), List.getElem_append_right (by omega)]
  simp [hl]
  congr 1
  omega
theorem repl_before {old new : Int} {L : List Int} {i : Nat} (hi : i ≤ L.length) (j : Int) (h0 : 0 ≤ j) (h1 : j < (i : Int)) : rd (repl old new (L.take i) ++ L.drop i) j = if rd L j = old then new else rd L j := by
  obtain ⟨m, rfl⟩ := Int.eq_ofNat_of_zero_le h0
  have hl : (repl old new (L.take i)).length = i := by rw [repl_length, List.length_take]; omega
  rw [rd_get _ _ (by rw [List.length_append, hl]; omega), rd_get _ _ (by omega), List.getElem_append_left (by omega)]
  simp [repl]
theorem repl_len {old new : Int} {L : List Int} {i : Nat} (hi : i ≤ L.length) : (repl old new (L.take i) ++ L.drop i).length = L.length := by
  simp [repl]
  omega
theorem join_spec_l (L : List Int) (a : Int) (old : Int) (ha : 0 ≤ a ∧ a < (L.length : Int)) (hne : rd L a ≠ old) (hl : L.length ≤ 100) (d : Nat) : ∀ (k i : Nat), L.length - i = d → i ≤ L.length → d < k → spec_l13Join.l0 k (repl old (rd L a) (L.take i) ++ L.drop i) a old (L.length : Int) (i : Int) = some (true, repl old (rd L a) L) := by
  induction d with
  | zero =>
    intro k i hd hi hk
    obtain ⟨k, rfl⟩ := succ_of hk
    simp only [spec_l13Join.l0, lt_f (show L.length ≤ i by omega), if_false]
    rw [List.take_of_length_le (by omega), List.drop_of_length_le (by omega), List.append_nil]
  | succ d ih =>
    intro k i hd hi hk
    obtain ⟨k, rfl⟩ := succ_of hk
    have hlt : i < L.length := by omega
    have hlen := repl_len (old := old) (new := rd L a) hi
    have hx : rd (repl old (rd L a) (L.take i) ++ L.drop i) (i : Int) = L[i] := by rw [repl_at hlt _ (by omega) (by omega), rd_get L i hlt]
    have hxa : rd (repl old (rd L a) (L.take i) ++ L.drop i) a = rd L a := by
      by_cases h : a < (i : Int)
      · rw [repl_before hi a ha.1 h, if_neg hne]
      · exact repl_at hlt a (by omega) ha.2
    simp only [spec_l13Join.l0, lt_t hlt, nn_t, if_true, hlen, hx, hxa, ha.1, ha.2, w1 (show i ≤ 140737488355328 by omega), Int.toNat_natCast]
    have hst := repl_step (old := old) (new := rd L a) hlt
    by_cases h : L[i] = old
    · rw [if_pos h] at hst
      rw [if_pos h, hst]
      exact ih k (i + 1) (by omega) (by omega) (by omega)
    · rw [if_neg h] at hst
      rw [if_neg h]
      have : (repl old (rd L a) (L.take i) ++ L.drop i) = repl old (rd L a) (L.take (i + 1)) ++ L.drop (i + 1) := by
        rw [← hst]
        exact (set_same (by omega) hx).symm
      rw [this]
      exact ih k (i + 1) (by omega) (by omega) (by omega)
theorem join_spec (L : List Int) (a b : Int) (ha : 0 ≤ a ∧ a < (L.length : Int)) (hb : 0 ≤ b ∧ b < (L.length : Int)) (hl : L.length ≤ 100) (k : Nat) (hk : L.length < k) : spec_l13Join.f k L a b = some (if rd L a = rd L b then (false, L) else (true, repl (rd L b) (rd L a) L)) := by
  unfold spec_l13Join.f
  simp only [ha.1, ha.2, hb.1, hb.2, if_true]
  by_cases h : rd L a = rd L b
  · rw [if_pos h, if_pos h]
  · rw [if_neg h, if_neg h]
    have := join_spec_l L a (rd L b) ha h hl L.length k 0 (by omega) (by omega) hk
    simpa [repl] using this
/-- a set's bit -/
def bitAt (set i : Int) : Bool := decide (Go.bits .and .i64 (shr .i64 set i) 1 = 1)
theorem bit_zero (set i : Int) : (Go.bits .and .i64 (shr .i64 set i) 1 = 0) ↔ bitAt set i = false := by
  unfold bitAt
  rw [i64_and1, decide_eq_false_iff_not]
  omega
structure Wires (n : Int) (ws : List (List Int)) : Prop where
  n_ok : 2 ≤ n ∧ n ≤ 6
  len : ws.length ≤ 12
  each : ∀ w ∈ ws, w.length = 2 ∧ (0 ≤ rd w 0 ∧ rd w 0 < n) ∧ (0 ≤ rd w 1 ∧ rd w 1 < n)
def specGo (set : Int) : List (List Int) → Nat → List Int → Bool → List Int × Bool
  | [], _, P, f => (P, f)
  | w :: r, i, P, f => if bitAt set (i : Int) then (if rd P (rd w 0) = rd P (rd w 1) then specGo set r (i + 1) P false else specGo set r (i + 1) (repl (rd P (rd w 1)) (rd P (rd w 0)) P) f) else specGo set r (i + 1) P f
def implGo (set : Int) : List (List Int) → Nat → List Int → Bool → List Int × Bool
  | [], _, G, f => (G, f)
  | w :: r, i, G, f => if bitAt set (i : Int) then implGo set r (i + 1) (repl (rd G (rd w 0)) (rd G (rd w 1)) G) (if rd G (rd w 0) = rd G (rd w 1) then false else f) else implGo set r (i + 1) G f
/-- The same nodes are joined. -/
structure Same (n : Int) (P G : List Int) : Prop where
  lp : (P.length : Int) = n
  lg : (G.length : Int) = n
  iff : ∀ i j : Int, 0 ≤ i → i < n → 0 ≤ j → j < n → (rd P i = rd P j ↔ rd G i = rd G j)
theorem same_go (n set : Int) (ws : List (List Int)) (hw : ∀ w ∈ ws, w.length = 2 ∧ (0 ≤ rd w 0 ∧ rd w 0 < n) ∧ (0 ≤ rd w 1 ∧ rd w 1 < n)) : ∀ (i : Nat) (P G : List Int) (f : Bool), Same n P G → Same n (specGo set ws i P f).1 (implGo set ws i G f).1 ∧ (specGo set ws i P f).2 = (implGo set ws i G f).2 := by
  induction ws with
  | nil => intro i P G f h; exact ⟨h, rfl⟩
  | cons w r ih =>
    intro i P G f h
    obtain ⟨_, ha, hb⟩ := hw w (by simp)
    simp only [specGo, implGo]
    have hr : ∀ w ∈ r, w.length = 2 ∧ (0 ≤ rd w 0 ∧ rd w 0 < n) ∧ (0 ≤ rd w 1 ∧ rd w 1 < n) := fun x hx => hw x (List.mem_cons_of_mem _ hx)
    generalize rd w 0 = a at *
    generalize rd w 1 = b at *
    have hab := h.iff a b ha.1 ha.2 hb.1 hb.2
    cases bitAt set (i : Int) with
    | false => simp only [Bool.false_eq_true, if_false]; exact ih hr (i + 1) P G f h
    | true =>
      simp only [if_true]
      by_cases e : rd P a = rd P b
      · have e2 := hab.mp e
        rw [if_pos e, if_pos e2]
        refine ih hr (i + 1) P _ false ⟨h.lp, by rw [repl_length]; exact h.lg, fun x y x0 x1 y0 y1 => ?_⟩
        rw [rd_repl x0 (by rw [h.lg]; exact x1), rd_repl y0 (by rw [h.lg]; exact y1), h.iff x y x0 x1 y0 y1]
        split <;> split <;> omega
      · have e2 : ¬ rd G a = rd G b := fun hh => e (hab.mpr hh)
        rw [if_neg e, if_neg e2]
        refine ih hr (i + 1) _ _ f ⟨by rw [repl_length]; exact h.lp, by rw [repl_length]; exact h.lg, fun x y x0 x1 y0 y1 => ?_⟩
        rw [rd_repl x0 (by rw [h.lp]; exact x1), rd_repl y0 (by rw [h.lp]; exact y1), rd_repl x0 (by rw [h.lg]; exact x1), rd_repl y0 (by rw [h.lg]; exact y1)]
        have h1 := h.iff x y x0 x1 y0 y1
        have h2 := h.iff x a x0 x1 ha.1 ha.2
        have h3 := h.iff x b x0 x1 hb.1 hb.2
        have h4 := h.iff y a y0 y1 ha.1 ha.2
        have h5 := h.iff y b y0 y1 hb.1 hb.2
        generalize rd P x = px at *
        generalize rd P y = py at *
        generalize rd P a = pa at *
        generalize rd P b = pb at *
        generalize rd G x = gx at *
        generalize rd G y = gy at *
        generalize rd G a = ga at *
        generalize rd G b = gb at *
        split <;> split <;> split <;> split <;> omega
theorem start_same (n : Nat) : Same (n : Int) ((List.range n).map fun j : Nat => (j : Int)) ((List.range n).map fun j : Nat => (j : Int)) := ⟨by simp, by simp, fun _ _ _ _ _ _ => Iff.rfl⟩
def start (n : Nat) : List Int := (List.range n).map fun j : Nat => (j : Int)
theorem start_len (n : Nat) : (start n).length = n := by simp [start]
theorem start_snoc (n : Nat) : start n ++ [(n : Int)] = start (n + 1) := by simp [start, List.range_succ]
theorem specGo_len (set : Int) (ws : List (List Int)) : ∀ (i : Nat) (P : List Int) (f : Bool), (specGo set ws i P f).1.length = P.length := by
  induction ws with
  | nil => intro i P f; rfl
  | cons w r ih =>
    intro i P f
    simp only [specGo]
    split
    · split
      · exact ih _ _ _
      · rw [ih, repl_length]
    · exact ih _ _ _
theorem implGo_len (set : Int) (ws : List (List Int)) : ∀ (i : Nat) (P : List Int) (f : Bool), (implGo set ws i P f).1.length = P.length := by
  induction ws with
  | nil => intro i P f; rfl
  | cons w r ih =>
    intro i P f
    simp only [implGo]
    split
    · rw [ih, repl_length]
    · exact ih _ _ _
theorem parts_l1 (n : Int) (ws : List (List Int)) (h : Wires n ws) (set : Int) (d : Nat) : ∀ (k i : Nat) (P : List Int) (f : Bool), (P.length : Int) = n → ws.length - i = d → i ≤ ws.length → d + 8 < k → spec_l13Parts.l1 k set P f ws (ws.length : Int) (i : Int) = some (specGo set (ws.drop i) i P f) := by
  have hl := h.len
  have hn := h.n_ok
  induction d with
  | zero =>
    intro k i P f hP hd hi hk
    obtain ⟨k, rfl⟩ := succ_of (show 0 < k by omega)
    simp only [spec_l13Parts.l1, lt_f (show ws.length ≤ i by omega), if_false, List.drop_of_length_le (show ws.length ≤ i by omega), specGo]
  | succ d ih =>
    intro k i P f hP hd hi hk
    obtain ⟨k, rfl⟩ := succ_of (show 0 < k by omega)
    have hlt : i < ws.length := by omega
    obtain ⟨g1, g2, g3⟩ := h.each _ (List.getElem_mem hlt)
    rw [List.drop_eq_getElem_cons hlt]
    simp only [spec_l13Parts.l1, lt_t hlt, nn_t, if_true, rdL_get ws i hlt, w1 (show i ≤ 140737488355328 by omega), show (0 < ((ws[i]).length : Int)) = True from eq_true (by omega), show (1 < ((ws[i]).length : Int)) = True from eq_true (by omega), specGo, bitAt, decide_eq_true_eq]
    by_cases hb : Go.bits .and .i64 (shr .i64 set (i : Int)) 1 = 1
    · rw [if_pos hb, if_pos hb, join_spec P _ _ ⟨g2.1, by omega⟩ ⟨g3.1, by omega⟩ (by omega) k (by omega)]
      by_cases e : rd P (rd ws[i] 0) = rd P (rd ws[i] 1)
      · rw [if_pos e, if_pos e]
        simp only [Option.bind_some, Bool.false_eq_true, if_false]
        exact ih k (i + 1) P false hP (by omega) (by omega) (by omega)
      · rw [if_neg e, if_neg e]
        simp only [Option.bind_some, if_true]
        exact ih k (i + 1) _ f (by rw [repl_length]; exact hP) (by omega) (by omega) (by omega)
    · rw [if_neg hb, if_neg hb]
      exact ih k (i + 1) P f hP (by omega) (by omega) (by omega)
theorem parts_l0 (n : Nat) (ws : List (List Int)) (h : Wires (n : Int) ws) (set : Int) (d : Nat) : ∀ (k i : Nat), n - i = d → i ≤ n → d + 22 < k → spec_l13Parts.l0 k (n : Int) ws set (start i) (i : Int) = some (specGo set ws 0 (start n) true) := by
  have hl := h.len
  have hn := h.n_ok
  induction d with
  | zero =>
    intro k i hd hi hk
    obtain ⟨k, rfl⟩ := succ_of (show 0 < k by omega)
    simp only [spec_l13Parts.l0, lt_f (show n ≤ i by omega), if_false]
    obtain rfl : i = n := by omega
    have := parts_l1 _ ws h set ws.length k 0 (start i) true (by rw [start_len]) (by omega) (by omega) (by omega)
    rw [Int.ofNat_zero, List.drop_zero] at this
    exact this
  | succ d ih =>
    intro k i hd hi hk
    obtain ⟨k, rfl⟩ := succ_of (show 0 < k by omega)
    have hlt : i < n := by omega
    simp only [spec_l13Parts.l0, lt_t hlt, if_true, start_len, show (i < 17592186044416) = True from eq_true (by omega), start_snoc, w1 (show i ≤ 140737488355328 by omega)]
    exact ih k (i + 1) (by omega) (by omega) (by omega)
theorem parts_f (n : Nat) (ws : List (List Int)) (h : Wires (n : Int) ws) (set : Int) (k : Nat) (hk : 40 < k) : spec_l13Parts.f k (n : Int) ws set = some (specGo set ws 0 (start n) true) := by
  have hn := h.n_ok
  exact parts_l0 n ws h set n k 0 (by omega) (by omega) (by omega)
theorem join_l2 (n : Int) (ws : List (List Int)) (set : Int) (G : List Int) (f : Bool) (from_ to_ : Int) (w : Nat) (hG : G.length ≤ 6) (hw : w ≤ 12) (Q : List Int × Bool) (d : Nat) : ∀ (k i : Nat), G.length - i = d → i ≤ G.length → d < k → (∀ k', k ≤ k' + d + 1 → impl_joined.l1 k' set (repl from_ to_ G) f ws (ws.length : Int) ((w + 1 : Nat) : Int) = some Q) → impl_joined.l2 k set (repl from_ to_ (G.take i) ++ G.drop i) f from_ to_ ws (ws.length : Int) (w : Int) (G.length : Int) (i : Int) = some Q := by
  induction d with
  | zero =>
    intro k i hd hi hk hQ
    obtain ⟨k, rfl⟩ := succ_of hk
    simp only [impl_joined.l2, lt_f (show G.length ≤ i by omega), if_false, w1 (show w ≤ 140737488355328 by omega)]
    rw [List.take_of_length_le (by omega), List.drop_of_length_le (by omega), List.append_nil]
    exact hQ k (by omega)
  | succ d ih =>
    intro k i hd hi hk hQ
    obtain ⟨k, rfl⟩ := succ_of hk
    have hlt : i < G.length := by omega
    have hlen := repl_len (old := from_) (new := to_) hi
    have hx : rd (repl from_ to_ (G.take i) ++ G.drop i) (i : Int) = G[i] := by rw [repl_at hlt _ (by omega) (by omega), rd_get G i hlt]
    have hst := repl_step (old := from_) (new := to_) hlt
    simp only [impl_joined.l2, lt_t hlt, nn_t, if_true, hlen, hx, w1 (show i ≤ 140737488355328 by omega), Int.toNat_natCast]
    by_cases h : G[i] = from_
    · rw [if_pos h] at hst
      rw [if_pos h, hst]
      exact ih k (i + 1) (by omega) (by omega) (by omega) (fun k' hk' => hQ k' (by omega))
    · rw [if_neg h] at hst
      rw [if_neg h]
      have : (repl from_ to_ (G.take i) ++ G.drop i) = repl from_ to_ (G.take (i + 1)) ++ G.drop (i + 1) := by
        rw [← hst]
        exact (set_same (by omega) hx).symm
      rw [this]
      exact ih k (i + 1) (by omega) (by omega) (by omega) (fun k' hk' => hQ k' (by omega))
theorem impl_joined_more (k : Nat) (y0 : Int) (y1 : List Int) (y2 : Bool) (y3 : List (List Int)) (y4 y5 : Int) (m : Nat) {r : List Int × Bool} (h : impl_joined.l1 k y0 y1 y2 y3 y4 y5 = some r) : impl_joined.l1 (k + m) y0 y1 y2 y3 y4 y5 = some r := by
  induction m with
  | zero => exact h
  | succ m ih => exact (impl_joined.mono_l (k + m)).2.1 _ _ _ _ _ _ _ ih
theorem joined_l1 (n : Int) (ws : List (List Int)) (h : Wires n ws) (set : Int) (d : Nat) : ∀ (k i : Nat) (G : List Int) (f : Bool), (G.length : Int) = n → ws.length - i = d → i ≤ ws.length → 20 * d < k → impl_joined.l1 k set G f ws (ws.length : Int) (i : Int) = some (implGo set (ws.drop i) i G f) := by
  have hl := h.len
  have hn := h.n_ok
  induction d with
  | zero =>
    intro k i G f hP hd hi hk
    obtain ⟨k, rfl⟩ := succ_of (show 0 < k by omega)
    simp only [impl_joined.l1, lt_f (show ws.length ≤ i by omega), if_false, List.drop_of_length_le (show ws.length ≤ i by omega), implGo]
  | succ d ih =>
    intro k i G f hP hd hi hk
    obtain ⟨k, rfl⟩ := succ_of (show 0 < k by omega)
    have hlt : i < ws.length := by omega
    obtain ⟨g1, g2, g3⟩ := h.each _ (List.getElem_mem hlt)
    rw [List.drop_eq_getElem_cons hlt]
    simp only [impl_joined.l1, lt_t hlt, nn_t, if_true, rdL_get ws i hlt, w1 (show i ≤ 140737488355328 by omega), show (0 < ((ws[i]).length : Int)) = True from eq_true (by omega), show (1 < ((ws[i]).length : Int)) = True from eq_true (by omega), implGo, g2.1, g3.1, hP, g2.2, g3.2]
    have hbz := bit_zero set (i : Int)
    cases hb : bitAt set (i : Int) with
    | false =>
      rw [if_pos (hbz.mpr hb)]
      simp only [Bool.false_eq_true, if_false]
      exact ih k (i + 1) G f hP (by omega) (by omega) (by omega)
    | true =>
      rw [if_neg (fun hh => by rw [hbz.mp hh] at hb; exact absurd hb (by simp))]
      obtain ⟨k, rfl⟩ := succ_of (show 0 < k by omega)
      simp only [if_true, impl_joined.j2, hP]
      have go : ∀ f', impl_joined.l2 k set G f' (rd G (rd ws[i] 0)) (rd G (rd ws[i] 1)) ws (ws.length : Int) (i : Int) n 0 = some (implGo set (ws.drop (i + 1)) (i + 1) (repl (rd G (rd ws[i] 0)) (rd G (rd ws[i] 1)) G) f') := by
        intro f'
        have := join_l2 n ws set G f' (rd G (rd ws[i] 0)) (rd G (rd ws[i] 1)) i (by omega) (by omega) (implGo set (ws.drop (i + 1)) (i + 1) (repl (rd G (rd ws[i] 0)) (rd G (rd ws[i] 1)) G) f') G.length k 0 (by omega) (by omega) (by omega) (fun k' hk' => ih k' (i + 1) _ f' (by rw [repl_length]; exact hP) (by omega) (by omega) (by omega))
        rw [← hP]
        simpa [repl] using this
      by_cases e : rd G (rd ws[i] 0) = rd G (rd ws[i] 1)
      · rw [if_pos e, if_pos e]; exact go false
      · rw [if_neg e, if_neg e]; exact go f
theorem joined_l0 (n : Nat) (ws : List (List Int)) (h : Wires (n : Int) ws) (set : Int) (d : Nat) : ∀ (k i : Nat), n - i = d → i ≤ n → d + 250 < k → impl_joined.l0 k ws set (start i) true (n : Int) (i : Int) = some (implGo set ws 0 (start n) true) := by
  have hl := h.len
  have hn := h.n_ok
  induction d with
  | zero =>
    intro k i hd hi hk
    obtain ⟨k, rfl⟩ := succ_of (show 0 < k by omega)
    simp only [impl_joined.l0, lt_f (show n ≤ i by omega), if_false]
    obtain rfl : i = n := by omega
    have := joined_l1 _ ws h set ws.length k 0 (start i) true (by rw [start_len]) (by omega) (by omega) (by omega)
    rw [Int.ofNat_zero, List.drop_zero] at this
    exact this
  | succ d ih =>
    intro k i hd hi hk
    obtain ⟨k, rfl⟩ := succ_of (show 0 < k by omega)
    have hlt : i < n := by omega
    simp only [impl_joined.l0, lt_t hlt, if_true, start_len, show (i < 17592186044416) = True from eq_true (by omega), start_snoc, w1 (show i ≤ 140737488355328 by omega)]
    exact ih k (i + 1) (by omega) (by omega) (by omega)
theorem joined_f (n : Nat) (ws : List (List Int)) (h : Wires (n : Int) ws) (set : Int) (k : Nat) (hk : 270 < k) : impl_joined.f k (n : Int) ws set = some (implGo set ws 0 (start n) true) := by
  have hn := h.n_ok
  exact joined_l0 n ws h set n k 0 (by omega) (by omega) (by omega)

def wireOk (n : Int) (w : List Int) : Bool := decide ((w.length : Int) = 2) && decide (0 ≤ rd w 0 ∧ rd w 0 ≤ n - 1) && decide (0 ≤ rd w 1 ∧ rd w 1 ≤ n - 1) && !decide (rd w 0 = rd w 1)
theorem wires_of {n : Int} {ws : List (List Int)} (hn : 2 ≤ n ∧ n ≤ 6) (hl : ws.length ≤ 12) (h : ∀ w ∈ ws, wireOk n w = true) : Wires n ws := ⟨hn, hl, fun w hw => by
  have := h w hw
  simp only [wireOk, Bool.and_eq_true, decide_eq_true_eq] at this
  omega⟩
theorem circ_spec_l1 (P : List Int) (hl : P.length ≤ 100) (d : Nat) : ∀ (k i : Nat), P.length - i = d → i ≤ P.length → d < k → spec_CircuitOk.l1 k P (P.length : Int) (i : Int) = some ((P.drop i).all fun x => decide (x = rd P 0)) := by
  induction d with
  | zero =>
    intro k i hd hi hk
    obtain ⟨k, rfl⟩ := succ_of hk
    simp only [spec_CircuitOk.l1, lt_f (show P.length ≤ i by omega), if_false, List.drop_of_length_le (show P.length ≤ i by omega), List.all_nil]
  | succ d ih =>
    intro k i hd hi hk
    obtain ⟨k, rfl⟩ := succ_of hk
    have hlt : i < P.length := by omega
    rw [List.drop_eq_getElem_cons hlt]
    simp only [spec_CircuitOk.l1, lt_t hlt, nn_t, if_true, show (0 < (P.length : Int)) = True from eq_true (by omega), rd_get P i hlt, w1 (show i ≤ 140737488355328 by omega), List.all_cons]
    by_cases h : P[i] = rd P 0
    · rw [if_pos h, ih k (i + 1) (by omega) (by omega) (by omega)]
      simp [h]
    · rw [if_neg h]
      simp [h]
theorem circ_impl_l1 (P : List Int) (hl : P.length ≤ 100) (d : Nat) : ∀ (k i : Nat), P.length - i = d → i ≤ P.length → d < k → impl_CircuitOk.l1 k P (P.length : Int) (i : Int) = some ((P.drop i).all fun x => decide (x = rd P 0)) := by
  induction d with
  | zero =>
    intro k i hd hi hk
    obtain ⟨k, rfl⟩ := succ_of hk
    simp only [impl_CircuitOk.l1, lt_f (show P.length ≤ i by omega), if_false, List.drop_of_length_le (show P.length ≤ i by omega), List.all_nil]
  | succ d ih =>
    intro k i hd hi hk
    obtain ⟨k, rfl⟩ := succ_of hk
    have hlt : i < P.length := by omega
    rw [List.drop_eq_getElem_cons hlt]
    simp only [impl_CircuitOk.l1, lt_t hlt, nn_t, if_true, show (0 < (P.length : Int)) = True from eq_true (by omega), rd_get P i hlt, w1 (show i ≤ 140737488355328 by omega), List.all_cons]
    by_cases h : P[i] = rd P 0
    · rw [if_pos h, ih k (i + 1) (by omega) (by omega) (by omega)]
      simp [h]
    · rw [if_neg h]
      simp [h]
theorem circ_spec_l0 (n : Nat) (hn : 2 ≤ n ∧ n ≤ 6) (ws : List (List Int)) (hl : ws.length ≤ 12) (E : Bool) (hE : (∀ w ∈ ws, wireOk n w = true) → ∀ k, 40 < k → ((spec_l13Parts.f k n ws (wrap64 ((shl .i64 1 (ws.length : Int)) - 1))).bind fun b => spec_CircuitOk.l1 k b.1 (b.1.length : Int) 0) = some E) (d : Nat) : ∀ (k i : Nat), ws.length - i = d → i ≤ ws.length → d + 41 < k → (∀ w ∈ ws.take i, wireOk n w = true) → spec_CircuitOk.l0 k (n : Int) ws ws (ws.length : Int) (i : Int) = some ((ws.drop i).all (wireOk n) && E) := by
  induction d with
  | zero =>
    intro k i hd hi hk ht
    obtain ⟨k, rfl⟩ := succ_of (show 0 < k by omega)
    rw [List.take_of_length_le (by omega)] at ht
    simp only [spec_CircuitOk.l0, lt_f (show ws.length ≤ i by omega), if_false, List.drop_of_length_le (show ws.length ≤ i by omega), List.all_nil, Bool.true_and]
    exact hE ht k (by omega)
  | succ d ih =>
    intro k i hd hi hk ht
    obtain ⟨k, rfl⟩ := succ_of (show 0 < k by omega)
    have hlt : i < ws.length := by omega
    rw [List.drop_eq_getElem_cons hlt]
    simp only [spec_CircuitOk.l0, lt_t hlt, nn_t, if_true, rdL_get ws i hlt, w1 (show i ≤ 140737488355328 by omega), l01In_f, Option.bind_some, decide_eq_true_eq, w64 (show -9223372036854775808 ≤ (n : Int) - 1 by omega) (show (n : Int) - 1 ≤ 9223372036854775807 by omega), List.all_cons]
    by_cases h1 : ((ws[i]).length : Int) = 2
    · rw [if_pos h1, if_pos (by omega)]
      by_cases h2 : 0 ≤ rd ws[i] 0 ∧ rd ws[i] 0 ≤ (n : Int) - 1
      · rw [if_pos h2, if_pos (by omega)]
        by_cases h3 : 0 ≤ rd ws[i] 1 ∧ rd ws[i] 1 ≤ (n : Int) - 1
        · rw [if_pos h3]
          by_cases h4 : rd ws[i] 0 = rd ws[i] 1
          · rw [if_pos h4]
            simp [wireOk, h4]
          · rw [if_neg h4]
            have hw : wireOk n ws[i] = true := by simp [wireOk, h1, h2, h3, h4]
            rw [ih k (i + 1) (by omega) (by omega) (by omega) (fun w hw' => by
              rw [← List.take_append_getElem hlt, List.mem_append] at hw'
              rcases hw' with h | h
              · exact ht w h
              · rw [List.mem_singleton] at h; rw [h]; exact hw), hw]
            simp
        · rw [if_neg h3]
          simp [wireOk, h3]
      · rw [if_neg h2]
        simp [wireOk, h2]
    · rw [if_neg h1]
      simp [wireOk, h1]
theorem circ_impl_l0 (n : Nat) (hn : 2 ≤ n ∧ n ≤ 6) (ws : List (List Int)) (hl : ws.length ≤ 12) (E : Bool) (hE : (∀ w ∈ ws, wireOk n w = true) → ∀ k, 270 < k → ((impl_joined.f k n ws (wrap64 ((shl .i64 1 (ws.length : Int)) - 1))).bind fun b => impl_CircuitOk.l1 k b.1 (b.1.length : Int) 0) = some E) (d : Nat) : ∀ (k i : Nat), ws.length - i = d → i ≤ ws.length → d + 271 < k → (∀ w ∈ ws.take i, wireOk n w = true) → impl_CircuitOk.l0 k (n : Int) ws ws (ws.length : Int) (i : Int) = some ((ws.drop i).all (wireOk n) && E) := by
  induction d with
  | zero =>
    intro k i hd hi hk ht
    obtain ⟨k, rfl⟩ := succ_of (show 0 < k by omega)
    rw [List.take_of_length_le (by omega)] at ht
    simp only [impl_CircuitOk.l0, lt_f (show ws.length ≤ i by omega), if_false, List.drop_of_length_le (show ws.length ≤ i by omega), List.all_nil, Bool.true_and]
    exact hE ht k (by omega)
  | succ d ih =>
    intro k i hd hi hk ht
    obtain ⟨k, rfl⟩ := succ_of (show 0 < k by omega)
    have hlt : i < ws.length := by omega
    rw [List.drop_eq_getElem_cons hlt]
    simp only [impl_CircuitOk.l0, lt_t hlt, nn_t, if_true, rdL_get ws i hlt, w1 (show i ≤ 140737488355328 by omega), within_f, Option.bind_some, decide_eq_true_eq, w64 (show -9223372036854775808 ≤ (n : Int) - 1 by omega) (show (n : Int) - 1 ≤ 9223372036854775807 by omega), List.all_cons]
    by_cases h1 : ((ws[i]).length : Int) = 2
    · rw [if_pos h1, if_pos (by omega)]
      by_cases h2 : 0 ≤ rd ws[i] 0 ∧ rd ws[i] 0 ≤ (n : Int) - 1
      · rw [if_pos h2, if_pos (by omega)]
        by_cases h3 : 0 ≤ rd ws[i] 1 ∧ rd ws[i] 1 ≤ (n : Int) - 1
        · rw [if_pos h3]
          by_cases h4 : rd ws[i] 0 = rd ws[i] 1
          · rw [if_pos h4]
            simp [wireOk, h4]
          · rw [if_neg h4]
            have hw : wireOk n ws[i] = true := by simp [wireOk, h1, h2, h3, h4]
            rw [ih k (i + 1) (by omega) (by omega) (by omega) (fun w hw' => by
              rw [← List.take_append_getElem hlt, List.mem_append] at hw'
              rcases hw' with h | h
              · exact ht w h
              · rw [List.mem_singleton] at h; rw [h]; exact hw), hw]
            simp
        · rw [if_neg h3]
          simp [wireOk, h3]
      · rw [if_neg h2]
        simp [wireOk, h2]
    · rw [if_neg h1]
      simp [wireOk, h1]
theorem all_same {n : Int} {P : List Int} (h : (P.length : Int) = n) : (P.all fun x => decide (x = rd P 0)) = true ↔ ∀ i : Int, 0 ≤ i → i < n → rd P i = rd P 0 := by
  rw [List.all_eq_true]
  constructor
  · intro hp i h0 h1
    obtain ⟨m, rfl⟩ := Int.eq_ofNat_of_zero_le h0
    rw [rd_get P m (by omega)]
    simpa using hp _ (List.getElem_mem (show m < P.length by omega))
  · intro hp x hx
    obtain ⟨m, hm, rfl⟩ := List.getElem_of_mem hx
    have := hp (m : Int) (by omega) (by omega)
    rw [rd_get P m hm] at this
    simpa using this
theorem same_all {n : Int} {P G : List Int} (h0 : 0 < n) (h : Same n P G) : (P.all fun x => decide (x = rd P 0)) = (G.all fun x => decide (x = rd G 0)) := by
  rw [Bool.eq_iff_iff, all_same h.lp, all_same h.lg]
  exact ⟨fun hh i a b => (h.iff i 0 a b (by omega) (by omega)).mp (hh i a b), fun hh i a b => (h.iff i 0 a b (by omega) (by omega)).mpr (hh i a b)⟩
theorem circ_ok (a : Int) (ws : List (List Int)) (ha : -9223372036854775808 ≤ a ∧ a ≤ 9223372036854775807) (k : Nat) (hk : 300 < k) : ∃ b, spec_CircuitOk.f k a ws = some b ∧ impl_CircuitOk.f k a ws = some b ∧ (b = true → Wires a ws) := by
  obtain ⟨k, rfl⟩ := succ_of (show 0 < k by omega)
  unfold spec_CircuitOk.f impl_CircuitOk.f
  rw [l01In_f, within_f]
  simp only [Option.bind_some, decide_eq_true_eq]
  by_cases h : 2 ≤ a ∧ a ≤ 6
  · rw [if_pos h, if_pos h]
    simp only [spec_CircuitOk.j0, impl_CircuitOk.j0, decide_eq_true_eq]
    by_cases hl : (ws.length : Int) > 12
    · rw [if_pos hl, if_pos hl]
      exact ⟨false, rfl, rfl, fun h => absurd h (by simp)⟩
    · rw [if_neg hl, if_neg hl]
      obtain ⟨n, rfl⟩ := Int.eq_ofNat_of_zero_le (show 0 ≤ a by omega)
      have hl12 : ws.length ≤ 12 := by omega
      obtain ⟨set, hset⟩ : ∃ set : Int, wrap64 ((shl .i64 1 (ws.length : Int)) - 1) = set := ⟨_, rfl⟩
      have hS := circ_spec_l0 n (by omega) ws hl12 ((specGo set ws 0 (start n) true).1.all fun x => decide (x = rd (specGo set ws 0 (start n) true).1 0)) (fun hw k hk => by
        have W := wires_of h hl12 hw
        have hlen := specGo_len set ws 0 (start n) true
        rw [start_len] at hlen
        rw [hset, parts_f n ws W set k hk, Option.bind_some]
        exact circ_spec_l1 _ (by omega) _ k 0 rfl (by omega) (by omega)) ws.length k 0 (by omega) (by omega) (by omega) (by simp)
      have hI := circ_impl_l0 n (by omega) ws hl12 ((implGo set ws 0 (start n) true).1.all fun x => decide (x = rd (implGo set ws 0 (start n) true).1 0)) (fun hw k hk => by
        have W := wires_of h hl12 hw
        have hlen := implGo_len set ws 0 (start n) true
        rw [start_len] at hlen
        rw [hset, joined_f n ws W set k hk, Option.bind_some]
        exact circ_impl_l1 _ (by omega) _ k 0 rfl (by omega) (by omega)) ws.length k 0 (by omega) (by omega) (by omega) (by simp)
      rw [Int.ofNat_zero, List.drop_zero] at hS hI
      by_cases hw : ∀ w ∈ ws, wireOk n w = true
      · have W := wires_of h hl12 hw
        have hs := same_all (by omega) (same_go (n : Int) set ws W.each 0 (start n) (start n) true (start_same n)).1
        exact ⟨_, hS, by rw [hI, hs], fun _ => W⟩
      · have hf : ws.all (wireOk n) = false := by
          rw [← Bool.not_eq_true, List.all_eq_true]
          exact hw
        exact ⟨false, by rw [hS, hf, Bool.false_and], by rw [hI, hf, Bool.false_and], fun h => absurd h (by simp)⟩
  · rw [if_neg h, if_neg h]
    simp only [spec_CircuitOk.j0, impl_CircuitOk.j0, if_true]
    exact ⟨false, rfl, rfl, fun h => absurd h (by simp)⟩

theorem more_of {α : Type} {f : Nat → Option α} (h : ∀ k, LeO (f k) (f (k + 1))) {k : Nat} {r : α} (hr : f k = some r) (K : Nat) (hK : k ≤ K) : f K = some r := by
  obtain ⟨m, rfl⟩ := Nat.exists_eq_add_of_le hK
  clear hK
  induction m with
  | zero => exact hr
  | succ m ih => exact h (k + m) _ ih
theorem ones_all : ∀ a b : Fin 64, ((spec_l08Ones.f 14 (64 * (a.val : Int) + (b.val : Int))).isSome && decide (spec_l08Ones.f 14 (64 * (a.val : Int) + (b.val : Int)) = bits_OnesCount.f (IntKind.u64.wrap (64 * (a.val : Int) + (b.val : Int))))) = true := by decide +kernel
theorem ones_at (i : Nat) (hi : i < 4096) (k : Nat) (hk : 14 ≤ k) : ∃ t, spec_l08Ones.f k (i : Int) = some t ∧ bits_OnesCount.f (IntKind.u64.wrap (i : Int)) = some t := by
  have h := ones_all ⟨i / 64, by omega⟩ ⟨i % 64, by omega⟩
  have e : (64 * ((i / 64 : Nat) : Int) + ((i % 64 : Nat) : Int)) = (i : Int) := by omega
  simp only [e, Bool.and_eq_true, decide_eq_true_eq] at h
  obtain ⟨t, ht⟩ := Option.isSome_iff_exists.mp h.1
  exact ⟨t, more_of (f := fun k => spec_l08Ones.f k (i : Int)) (fun k => spec_l08Ones.mono _ k) ht k hk, by rw [← h.2, ht]⟩

theorem circ_nonempty (n : Nat) (hn : 2 ≤ n ∧ n ≤ 6) (k : Nat) (hk : 300 < k) : spec_CircuitOk.f k (n : Int) [] = some false := by
  obtain ⟨k, rfl⟩ := succ_of (show 0 < k by omega)
  unfold spec_CircuitOk.f
  rw [l01In_f]
  simp only [Option.bind_some, decide_eq_true_eq]
  rw [if_pos (by omega)]
  simp only [spec_CircuitOk.j0, decide_eq_true_eq]
  rw [if_neg (by simp)]
  obtain ⟨set, hset⟩ : ∃ set : Int, wrap64 ((shl .i64 1 (([] : List (List Int)).length : Int)) - 1) = set := ⟨_, rfl⟩
  have hS := circ_spec_l0 n hn [] (by simp) ((start n).all fun x => decide (x = rd (start n) 0)) (fun hw k hk => by
    have W := wires_of (n := (n : Int)) (ws := []) (by omega) (by simp) hw
    have hlen := start_len n
    rw [hset, parts_f n [] W set k hk, Option.bind_some]
    exact circ_spec_l1 _ (by show (start n).length ≤ 100; omega) _ k 0 rfl (by omega) (by show (start n).length - 0 < k; omega)) 0 k 0 (by simp) (by simp) (by omega) (by simp)
  have hf : ((start n).all fun x => decide (x = rd (start n) 0)) = false := by
    rw [← Bool.not_eq_true, all_same (n := (n : Int)) (by rw [start_len])]
    intro h
    have h1 := h 1 (by omega) (by omega)
    have e1 : rd (start n) ((1 : Nat) : Int) = 1 := by rw [rd_get _ _ (by rw [start_len]; omega)]; simp [start]
    have e0 : rd (start n) ((0 : Nat) : Int) = 0 := by rw [rd_get _ _ (by rw [start_len]; omega)]; simp [start]
    rw [show ((1 : Int)) = ((1 : Nat) : Int) from rfl, e1, show ((0 : Int)) = ((0 : Nat) : Int) from rfl, e0] at h1
    exact absurd h1 (by decide)
  rw [hf] at hS
  simpa using hS
/-- the inner round: entries are counted up where c says so -/
def bumpGo (c : Int → Bool) : Nat → Nat → List Int → List Int
  | 0, _, s => s
  | d + 1, i, s => bumpGo c d (i + 1) (if c (i : Int) then s.set i (wrap64 (rd s (i : Int) + 1)) else s)
theorem bumpGo_len (c : Int → Bool) : ∀ (d i : Nat) (s : List Int), (bumpGo c d i s).length = s.length
  | 0, _, _ => rfl
  | d + 1, i, s => by
    rw [bumpGo, bumpGo_len c d]
    split
    · exact List.length_set
    · rfl
theorem set_in {s : List Int} {i : Nat} {v : Int} {N : Int} (h : ∀ x ∈ s, 0 ≤ x ∧ x ≤ N) (hv : 0 ≤ v ∧ v ≤ N) : ∀ x ∈ s.set i v, 0 ≤ x ∧ x ≤ N := by
  intro x hx
  rcases List.mem_or_eq_of_mem_set hx with h1 | h1
  · exact h x h1
  · rw [h1]; exact hv
/-- Entries from i on are at most N, all at most N + 1. -/
theorem bumpGo_in (c : Int → Bool) (N : Int) (hN : 0 ≤ N ∧ N ≤ 100000) : ∀ (d i : Nat) (s : List Int), i + d = s.length → (∀ x ∈ s, 0 ≤ x ∧ x ≤ N + 1) → (∀ (j : Nat) (hj : j < s.length), i ≤ j → s[j] ≤ N) → ∀ x ∈ bumpGo c d i s, 0 ≤ x ∧ x ≤ N + 1
  | 0, _, _, _, h, _ => h
  | d + 1, i, s, hd, h, ht => by
    rw [bumpGo]
    have hi : i < s.length := by omega
    have hx := ht i hi (Nat.le_refl _)
    have h0 := h _ (List.getElem_mem hi)
    split
    · rw [rd_get s i hi, w64 (by omega) (by omega)]
      refine bumpGo_in c N hN d (i + 1) _ (by rw [List.length_set]; omega) (set_in h (by omega)) (fun j hj hij => ?_)
      rw [List.getElem_set_ne (by omega)]
      exact ht j (by rw [List.length_set] at hj; exact hj) (by omega)
    · exact bumpGo_in c N hN d (i + 1) s (by omega) h (fun j hj hij => ht j hj (by omega))
theorem pot_spec_l1 (n : Int) (ws : List (List Int)) (set : Int) (P : List Int) (Q : List Int) (hP : P.length ≤ 100) (d : Nat) : ∀ (k i : Nat) (s : List Int), P.length - i = d → i ≤ P.length → s.length = P.length → d < k → (∀ k', k ≤ k' + d + 1 → spec_PotentialsOf.l0 k' n ws (bumpGo (fun j => decide (rd P j = rd P 0)) d i s) (wrap64 (set + 1)) = some Q) → spec_PotentialsOf.l1 k n ws s set P (P.length : Int) (i : Int) = some Q := by
  induction d with
  | zero =>
    intro k i s hd hi hs hk hQ
    obtain ⟨k, rfl⟩ := succ_of hk
    simp only [spec_PotentialsOf.l1, lt_f (show P.length ≤ i by omega), if_false]
    exact hQ k (by omega)
  | succ d ih =>
    intro k i s hd hi hs hk hQ
    obtain ⟨k, rfl⟩ := succ_of hk
    have hlt : i < P.length := by omega
    simp only [spec_PotentialsOf.l1, lt_t hlt, nn_t, if_true, show (0 < (P.length : Int)) = True from eq_true (by omega), w1 (show i ≤ 140737488355328 by omega), lt_t (show i < s.length by omega), Int.toNat_natCast]
    simp only [bumpGo, decide_eq_true_eq] at hQ
    by_cases h : rd P (i : Int) = rd P 0
    · rw [if_pos h]
      rw [if_pos h] at hQ
      exact ih k (i + 1) _ (by omega) (by omega) (by rw [List.length_set]; exact hs) (by omega) (fun k' hk' => hQ k' (by omega))
    · rw [if_neg h]
      rw [if_neg h] at hQ
      exact ih k (i + 1) s (by omega) (by omega) hs (by omega) (fun k' hk' => hQ k' (by omega))
theorem pot_impl_l0 (G : List Int) (c : Int → Bool) (hG : G.length ≤ 100) (hc : ∀ i : Nat, i < G.length → (rd G (i : Int) = rd G 0 ↔ c (i : Int) = true)) (d : Nat) : ∀ (k i : Nat) (s : List Int), G.length - i = d → i ≤ G.length → s.length = G.length → d < k → impl_potentials.l0 k s G (G.length : Int) (i : Int) = some (bumpGo c d i s) := by
  induction d with
  | zero =>
    intro k i s hd hi hs hk
    obtain ⟨k, rfl⟩ := succ_of hk
    simp only [impl_potentials.l0, lt_f (show G.length ≤ i by omega), if_false, bumpGo]
  | succ d ih =>
    intro k i s hd hi hs hk
    obtain ⟨k, rfl⟩ := succ_of hk
    have hlt : i < G.length := by omega
    simp only [impl_potentials.l0, lt_t hlt, nn_t, if_true, show (0 < (G.length : Int)) = True from eq_true (by omega), w1 (show i ≤ 140737488355328 by omega), lt_t (show i < s.length by omega), Int.toNat_natCast, bumpGo]
    by_cases h : rd G (i : Int) = rd G 0
    · rw [if_pos h, if_pos ((hc i hlt).mp h)]
      exact ih k (i + 1) _ (by omega) (by omega) (by rw [List.length_set]; exact hs) (by omega)
    · rw [if_neg h, if_neg (fun hh => h ((hc i hlt).mpr hh))]
      exact ih k (i + 1) s (by omega) (by omega) hs (by omega)
theorem pots_l (n : Nat) (ws : List (List Int)) (W : Wires (n : Int) ws) (S : Nat) (hS : S ≤ 4096) (hs : shl .i64 1 (ws.length : Int) = (S : Int)) (d : Nat) : ∀ (k i : Nat) (p : List Int), S - i = d → i ≤ S → 30 * d + 400 < k → p.length = n → (∀ x ∈ p, 0 ≤ x ∧ x ≤ (i : Int)) → ∃ r, spec_PotentialsOf.l0 k (n : Int) ws p (i : Int) = some r ∧ cs.l0 (impl_potentials.step (n : Int)) k (n : Int) ws (wrap64 ((n : Int) - 2)) p (i : Int) = some r ∧ r.length = n ∧ ∀ x ∈ r, 0 ≤ x ∧ x ≤ 4096 := by
  have hn := W.n_ok
  induction d with
  | zero =>
    intro k i p hd hi hk hp hb
    obtain ⟨k, rfl⟩ := succ_of (show 0 < k by omega)
    exact ⟨p, by simp only [spec_PotentialsOf.l0, hs, lt_f (show S ≤ i by omega), if_false], by simp only [cs.l0, hs, lt_f (show S ≤ i by omega), if_false], hp, fun x hx => by have := hb x hx; omega⟩
  | succ d ih =>
    intro k i p hd hi hk hp hb
    obtain ⟨k, rfl⟩ := succ_of (show 0 < k by omega)
    have hlt : i < S := by omega
    obtain ⟨t, h1, h2⟩ := ones_at i (by omega) k (by omega)
    have hgo := same_go (n : Int) (i : Int) ws W.each 0 (start n) (start n) true (start_same n)
    simp only [spec_PotentialsOf.l0, cs.l0, hs, lt_t hlt, if_true, h1, h2, Option.bind_some, parts_f n ws W (i : Int) k (by omega), joined_f n ws W (i : Int) k (by omega), w1 (show i ≤ 140737488355328 by omega)]
    obtain ⟨hS1, hS2⟩ := hgo
    generalize specGo (i : Int) ws 0 (start n) true = sp at hS1 hS2
    generalize implGo (i : Int) ws 0 (start n) true = im at hS1 hS2
    obtain ⟨P, f⟩ := sp
    obtain ⟨G, f'⟩ := im
    simp only at hS1 hS2
    subst hS2
    have lp := hS1.lp
    have lg := hS1.lg
    have hb' : ∀ x ∈ p, 0 ≤ x ∧ x ≤ ((i + 1 : Nat) : Int) := fun x hx => by have := hb x hx; omega
    have next := ih k (i + 1) p (by omega) (by omega) (by omega) hp hb'
    by_cases e : t = wrap64 ((n : Int) - 2)
    · rw [if_pos e, if_pos e]
      cases f with
      | false =>
        simp only [Bool.false_eq_true, if_false]
        obtain ⟨k, rfl⟩ := succ_of (show 0 < k by omega)
        simp only [spec_PotentialsOf.j1, if_true, w1 (show i ≤ 140737488355328 by omega)]
        obtain ⟨r, g1, g2, g3⟩ := ih k (i + 1) p (by omega) (by omega) (by omega) hp hb'
        exact ⟨r, g1, cs.mono_l _ k _ _ _ _ _ _ g2, g3⟩
      | true =>
        have wn : wrap64 ((n : Int) - 1) = (n : Int) - 1 := w64 (by omega) (by omega)
        have hstep : impl_potentials.step (n : Int) p G = if rd G 0 = rd G ((n : Int) - 1) then some p else impl_potentials.l0 10 p G (G.length : Int) 0 := by
          unfold impl_potentials.step
          rw [if_pos (by omega), wn, if_pos (by omega), if_pos (by omega)]
        simp only [if_true, wn, show (0 < (P.length : Int)) = True from eq_true (by omega), show (0 ≤ (n : Int) - 1) = True from eq_true (by omega), show ((n : Int) - 1 < (P.length : Int)) = True from eq_true (by omega), hstep]
        obtain ⟨k, rfl⟩ := succ_of (show 0 < k by omega)
        have hiff := hS1.iff 0 ((n : Int) - 1) (by omega) (by omega) (by omega) (by omega)
        simp only [spec_PotentialsOf.j1, beq_iff_eq, w1 (show i ≤ 140737488355328 by omega)]
        by_cases e2 : rd P 0 = rd P ((n : Int) - 1)
        · rw [if_pos e2, if_pos (hiff.mp e2), Option.bind_some]
          obtain ⟨r, g1, g2, g3⟩ := ih k (i + 1) p (by omega) (by omega) (by omega) hp hb'
          exact ⟨r, g1, cs.mono_l _ k _ _ _ _ _ _ g2, g3⟩
        · rw [if_neg e2, if_neg (fun h => e2 (hiff.mpr h))]
          have himp := pot_impl_l0 G (fun j => decide (rd P j = rd P 0)) (by omega) (fun j hj => by
            rw [decide_eq_true_eq]
            exact (hS1.iff (j : Int) 0 (by omega) (by omega) (by omega) (by omega)).symm) G.length 10 0 p (by omega) (by omega) (by omega) (by omega)
          rw [Int.ofNat_zero] at himp
          rw [himp, Option.bind_some]
          have eLG : G.length = P.length := by omega
          rw [eLG]
          obtain ⟨k, rfl⟩ : ∃ m, k = m + 20 := ⟨k - 20, by omega⟩
          obtain ⟨r, g1, g2, g3⟩ := ih k (i + 1) (bumpGo (fun j => decide (rd P j = rd P 0)) P.length 0 p) (by omega) (by omega) (by omega) (by rw [bumpGo_len]; exact hp) (fun x hx => by
            have := bumpGo_in _ (i : Int) (by omega) P.length 0 p (by omega) (fun x hx => by have := hb x hx; omega) (fun j hj _ => (hb _ (List.getElem_mem hj)).2) x hx
            omega)
          refine ⟨r, ?_, more_of (f := fun k => cs.l0 (impl_potentials.step (n : Int)) k (n : Int) ws (wrap64 ((n : Int) - 2)) (bumpGo (fun j => decide (rd P j = rd P 0)) P.length 0 p) ((i + 1 : Nat) : Int)) (fun k => cs.mono_l _ k _ _ _ _ _) g2 _ (by omega), g3⟩
          have := pot_spec_l1 (n : Int) ws (i : Int) P r (by omega) P.length (k + 20) 0 p (by omega) (by omega) (by omega) (by omega) (fun k' hk' => by
            rw [w1 (show i ≤ 140737488355328 by omega)]
            exact more_of (f := fun k => spec_PotentialsOf.l0 k (n : Int) ws (bumpGo (fun j => decide (rd P j = rd P 0)) P.length 0 p) ((i + 1 : Nat) : Int)) (fun k => (spec_PotentialsOf.mono_l k).1 _ _ _ _) g1 k' (by omega))
          rw [Int.ofNat_zero] at this
          exact this
    · rw [if_neg e, if_neg e]
      exact next
theorem shl_small (m : Nat) (hm : m ≤ 12) : ∃ S : Nat, S ≤ 4096 ∧ shl .i64 1 (m : Int) = (S : Int) := by
  have : ∀ m : Fin 13, (decide (0 ≤ shl .i64 1 (m.val : Int)) && decide (shl .i64 1 (m.val : Int) ≤ 4096)) = true := by decide +kernel
  have h := this ⟨m, by omega⟩
  simp only [Bool.and_eq_true, decide_eq_true_eq] at h
  exact ⟨(shl .i64 1 (m : Int)).toNat, by omega, by omega⟩
/-- Both texts' potentials. -/
theorem pots (n : Nat) (ws : List (List Int)) (W : Wires (n : Int) ws) (k : Nat) (hk : 130000 < k) : ∃ r, spec_PotentialsOf.l0 k (n : Int) ws (List.replicate n 0) 0 = some r ∧ impl_potentials.f k (n : Int) ws = some r ∧ r.length = n ∧ ∀ x ∈ r, 0 ≤ x ∧ x ≤ 4096 := by
  obtain ⟨S, hS, hs⟩ := shl_small ws.length W.len
  have hn := W.n_ok
  obtain ⟨r, g1, g2, g3⟩ := pots_l n ws W S hS hs S k 0 (List.replicate n 0) (by omega) (by omega) (by omega) (by simp) (fun x hx => by rw [List.eq_of_mem_replicate hx]; simp)
  rw [Int.ofNat_zero] at g1 g2
  refine ⟨r, g1, ?_, g3⟩
  unfold impl_potentials.f
  rw [if_pos W.len, if_pos (by omega), if_pos (by omega), Int.toNat_natCast]
  exact g2

def curOf (p : List Int) (w : List Int) : Int := wrap64 (rd p (rd w 0) - rd p (rd w 1))
theorem cur_l (p : List Int) (n : Int) (ws : List (List Int)) (W : Wires n ws) (hp : (p.length : Int) = n) (d : Nat) : ∀ (k i : Nat) (acc : List Int), ws.length - i = d → i ≤ ws.length → acc.length + d ≤ 100 → d < k → spec_CurrentsOf.l0 k p acc ws (ws.length : Int) (i : Int) = some (acc ++ (ws.drop i).map (curOf p)) ∧ impl_currents.l0 k p acc ws (ws.length : Int) (i : Int) = some (acc ++ (ws.drop i).map (curOf p)) := by
  have hl := W.len
  induction d with
  | zero =>
    intro k i acc hd hi ha hk
    obtain ⟨k, rfl⟩ := succ_of hk
    simp only [spec_CurrentsOf.l0, impl_currents.l0, lt_f (show ws.length ≤ i by omega), if_false, List.drop_of_length_le (show ws.length ≤ i by omega), List.map_nil, List.append_nil, and_self]
  | succ d ih =>
    intro k i acc hd hi ha hk
    obtain ⟨k, rfl⟩ := succ_of hk
    have hlt : i < ws.length := by omega
    obtain ⟨g1, g2, g3⟩ := W.each _ (List.getElem_mem hlt)
    simp only [spec_CurrentsOf.l0, impl_currents.l0, lt_t hlt, nn_t, if_true, rdL_get ws i hlt, w1 (show i ≤ 140737488355328 by omega), show (0 < ((ws[i]).length : Int)) = True from eq_true (by omega), show (1 < ((ws[i]).length : Int)) = True from eq_true (by omega), g2.1, g3.1, hp, g2.2, g3.2, show (acc.length < 17592186044416) = True from eq_true (by omega)]
    obtain ⟨e1, e2⟩ := ih k (i + 1) (acc ++ [curOf p ws[i]]) (by omega) (by omega) (by simp; omega) (by omega)
    have e3 : acc ++ [curOf p ws[i]] ++ (ws.drop (i + 1)).map (curOf p) = acc ++ (ws.drop i).map (curOf p) := by
      rw [List.drop_eq_getElem_cons hlt, List.map_cons, List.append_assoc]
      rfl
    rw [e3] at e1 e2
    exact ⟨e1, e2⟩
theorem rd_in {p : List Int} {N : Int} (hp : ∀ x ∈ p, 0 ≤ x ∧ x ≤ N) {i : Int} (h0 : 0 ≤ i) (h1 : i < (p.length : Int)) : 0 ≤ rd p i ∧ rd p i ≤ N := by
  obtain ⟨m, rfl⟩ := Int.eq_ofNat_of_zero_le h0
  rw [rd_get p m (by omega)]
  exact hp _ (List.getElem_mem _)
theorem cur_in (p : List Int) (n : Int) (ws : List (List Int)) (W : Wires n ws) (hp : (p.length : Int) = n) (hb : ∀ x ∈ p, 0 ≤ x ∧ x ≤ 4096) : ∀ x ∈ ws.map (curOf p), -4096 ≤ x ∧ x ≤ 4096 := by
  intro x hx
  obtain ⟨w, hw, rfl⟩ := List.mem_map.mp hx
  obtain ⟨g1, g2, g3⟩ := W.each w hw
  have h1 := rd_in hb g2.1 (by omega)
  have h2 := rd_in hb g3.1 (by omega)
  unfold curOf
  rw [w64 (by omega) (by omega)]
  omega

theorem gcd_step (a b : Nat) (hb : 0 < b) : Nat.gcd a b = Nat.gcd b (a % b) := by
  rw [Nat.gcd_comm a b, Nat.gcd_rec b a, Nat.gcd_comm]
theorem l02Gcd_l (k : Nat) : ∀ (a b : Nat), b < k → spec_l02Gcd.l0 k (a : Int) (b : Int) = some ((Nat.gcd a b : Nat) : Int) := by
  induction k with
  | zero => intro a b h; omega
  | succ k ih =>
    intro a b h
    simp only [spec_l02Gcd.l0]
    by_cases hb : 0 < b
    · rw [if_pos (by omega), if_neg (by omega), ← Int.ofNat_tmod, ih b (a % b) (by have := Nat.mod_lt a hb; omega), gcd_step a b hb]
    · rw [if_neg (by omega)]
      obtain rfl : b = 0 := by omega
      rw [Nat.gcd_zero_right]
theorem mx_abs (x : Int) (h0 : -9000000000000000000 ≤ x) (h1 : x ≤ 9000000000000000000) : mx x (wrap64 (-x)) = ((x.natAbs : Nat) : Int) := by
  rw [w64 (by omega) (by omega)]
  unfold mx
  split <;> omega
theorem l02Gcd_f (g x : Int) (hg : -9000000000000000000 ≤ g ∧ g ≤ 9000000000000000000) (hx : -9000000000000000000 ≤ x ∧ x ≤ 9000000000000000000) (k : Nat) (hk : x.natAbs < k) : spec_l02Gcd.f k g x = some ((Nat.gcd g.natAbs x.natAbs : Nat) : Int) := by
  unfold spec_l02Gcd.f
  rw [mx_abs g hg.1 hg.2, mx_abs x hx.1 hx.2]
  exact l02Gcd_l k _ _ hk
theorem common_l (k : Nat) : ∀ (a b : Int), (-9000000000000000000 ≤ a ∧ a ≤ 9000000000000000000) → (-9000000000000000000 ≤ b ∧ b ≤ 9000000000000000000) → b.natAbs < k → impl_common.l0 k a b = some ((Nat.gcd a.natAbs b.natAbs : Nat) : Int) := by
  induction k with
  | zero => intro a b _ _ h; omega
  | succ k ih =>
    intro a b ha hb h
    simp only [impl_common.l0]
    by_cases e : b = 0
    · rw [if_pos e, mx_abs a ha.1 ha.2, e]
      simp
    · have hlt : (Int.tmod a b).natAbs < b.natAbs := by rw [Int.natAbs_tmod]; exact Nat.mod_lt _ (by omega)
      rw [if_neg e, ih b (Int.tmod a b) hb (by omega) (by omega), Int.natAbs_tmod, gcd_step a.natAbs b.natAbs (by omega)]
def gcdOf (g : Nat) (l : List Int) : Nat := l.foldl (fun g x => Nat.gcd g x.natAbs) g
theorem gcd_le {g : Nat} {x : Int} {N : Nat} (hg : g ≤ N) (hx : x.natAbs ≤ N) : Nat.gcd g x.natAbs ≤ N := by
  by_cases h : g = 0
  · rw [h, Nat.gcd_zero_left]; exact hx
  · exact Nat.le_trans (Nat.gcd_le_left _ (by omega)) hg
theorem gcdOf_le (l : List Int) (N : Nat) (hl : ∀ x ∈ l, x.natAbs ≤ N) : ∀ g, g ≤ N → gcdOf g l ≤ N := by
  induction l with
  | nil => intro g h; exact h
  | cons x r ih => intro g h; exact ih (fun y hy => hl y (List.mem_cons_of_mem _ hy)) _ (gcd_le h (hl x (by simp)))
theorem div_l (l : List Int) (hl : l.length ≤ 100) (hb : ∀ x ∈ l, -100000 ≤ x ∧ x ≤ 100000) (d : Nat) : ∀ (k i : Nat) (g : Nat), l.length - i = d → i ≤ l.length → g ≤ 100000 → d + 100001 < k → spec_l13Divisor.l0 k (g : Int) l (l.length : Int) (i : Int) = some (mx 1 ((gcdOf g (l.drop i) : Nat) : Int)) ∧ impl_divisor.l0 k (g : Int) l (l.length : Int) (i : Int) = some (mx ((gcdOf g (l.drop i) : Nat) : Int) 1) := by
  induction d with
  | zero =>
    intro k i g hd hi hg hk
    obtain ⟨k, rfl⟩ := succ_of (show 0 < k by omega)
    simp only [spec_l13Divisor.l0, impl_divisor.l0, lt_f (show l.length ≤ i by omega), if_false, List.drop_of_length_le (show l.length ≤ i by omega), gcdOf, List.foldl_nil, and_self]
  | succ d ih =>
    intro k i g hd hi hg hk
    obtain ⟨k, rfl⟩ := succ_of (show 0 < k by omega)
    have hlt : i < l.length := by omega
    have hx := hb _ (List.getElem_mem hlt)
    have hgle : Nat.gcd g (l[i]).natAbs ≤ 100000 := gcd_le hg (by omega)
    rw [List.drop_eq_getElem_cons hlt]
    simp only [spec_l13Divisor.l0, impl_divisor.l0, lt_t hlt, nn_t, if_true, rd_get l i hlt, w1 (show i ≤ 140737488355328 by omega), l02Gcd_f (g : Int) l[i] (by omega) (by omega) k (by omega), impl_common.f, common_l k (g : Int) l[i] (by omega) (by omega) (by omega), Option.bind_some, Int.natAbs_natCast]
    exact ih k (i + 1) _ (by omega) (by omega) hgle (by omega)
def divOf (l : List Int) : Int := if gcdOf 0 l = 0 then 1 else ((gcdOf 0 l : Nat) : Int)
theorem div_f (l : List Int) (hl : l.length ≤ 100) (hb : ∀ x ∈ l, -100000 ≤ x ∧ x ≤ 100000) (k : Nat) (hk : 100200 < k) : spec_l13Divisor.f k l = some (divOf l) ∧ impl_divisor.f k l = some (divOf l) := by
  have h := div_l l hl hb l.length k 0 0 (by omega) (by omega) (by omega) (by omega)
  rw [List.drop_zero, Int.ofNat_zero] at h
  unfold spec_l13Divisor.f impl_divisor.f
  rw [h.1, h.2]
  unfold divOf mx
  by_cases e : gcdOf 0 l = 0
  · rw [if_pos e, e]; simp
  · rw [if_neg e]
    constructor
    · split
      · rfl
      · congr 1; omega
    · rw [if_neg (by omega)]
theorem divOf_pos (l : List Int) : 0 < divOf l := by
  unfold divOf
  split <;> omega

theorem trees_l (n : Nat) (ws : List (List Int)) (W : Wires (n : Int) ws) (S : Nat) (hS : S ≤ 4096) (hs : shl .i64 1 (ws.length : Int) = (S : Int)) (d : Nat) : ∀ (k i : Nat) (c : Int), S - i = d → i ≤ S → d + 300 < k → ∃ r, spec_CountTrees.l0 k (n : Int) ws c (i : Int) = some r ∧ cs.l0 (fun s _ => some (wrap64 (s + 1))) k (n : Int) ws (wrap64 ((n : Int) - 1)) c (i : Int) = some r := by
  induction d with
  | zero =>
    intro k i c hd hi hk
    obtain ⟨k, rfl⟩ := succ_of (show 0 < k by omega)
    exact ⟨c, by simp only [spec_CountTrees.l0, hs, lt_f (show S ≤ i by omega), if_false], by simp only [cs.l0, hs, lt_f (show S ≤ i by omega), if_false]⟩
  | succ d ih =>
    intro k i c hd hi hk
    obtain ⟨k, rfl⟩ := succ_of (show 0 < k by omega)
    have hlt : i < S := by omega
    obtain ⟨t, h1, h2⟩ := ones_at i (by omega) k (by omega)
    have hsame := (same_go (n : Int) (i : Int) ws W.each 0 (start n) (start n) true (start_same n)).2
    simp only [spec_CountTrees.l0, cs.l0, hs, lt_t hlt, if_true, h1, h2, Option.bind_some, parts_f n ws W (i : Int) k (by omega), joined_f n ws W (i : Int) k (by omega), w1 (show i ≤ 140737488355328 by omega), hsame]
    by_cases e : t = wrap64 ((n : Int) - 1)
    · rw [if_pos e, if_pos e]
      split
      · exact ih k (i + 1) _ (by omega) (by omega) (by omega)
      · exact ih k (i + 1) _ (by omega) (by omega) (by omega)
    · rw [if_neg e, if_neg e]
      exact ih k (i + 1) c (by omega) (by omega) (by omega)
theorem sides_eq (a : Int) (ws : List (List Int)) (ha : -9223372036854775808 ≤ a ∧ a ≤ 9223372036854775807) (k : Nat) (hk : 140000 < k) : ∃ r, spec_RectangleSides.f k a ws = some r ∧ impl_RectangleSides.f k a ws = some r := by
  obtain ⟨b, h1, h2, h3⟩ := circ_ok a ws ha k (by omega)
  cases b with
  | false =>
    refine ⟨(0, 0), ?_, ?_⟩
    · unfold spec_RectangleSides.f spec_CurrentsOf.f spec_PotentialsOf.f
      rw [h1]
      simp
    · unfold impl_RectangleSides.f
      rw [h2]
      simp
  | true =>
    have W := h3 rfl
    have hn := W.n_ok
    have hl := W.len
    obtain ⟨n, rfl⟩ := Int.eq_ofNat_of_zero_le (show 0 ≤ a by omega)
    have hne : ws ≠ [] := by
      rintro rfl
      rw [circ_nonempty n (by omega) k (by omega)] at h1
      exact absurd h1 (by simp)
    obtain ⟨p, g1, g2, g3, g4⟩ := pots n ws W k (by omega)
    obtain ⟨c1, c2⟩ := cur_l p (n : Int) ws W (by omega) ws.length k 0 [] (by omega) (by omega) (by simp; omega) (by omega)
    rw [List.nil_append, List.drop_zero, Int.ofNat_zero] at c1 c2
    have e0 : spec_PotentialsOf.f k (n : Int) ws = some p := by
      unfold spec_PotentialsOf.f
      rw [h1, Option.bind_some, if_pos rfl, if_pos (by omega), Int.toNat_natCast, if_pos (by omega), g1]
    have e1 : spec_CurrentsOf.f k (n : Int) ws = some (ws.map (curOf p)) := by
      unfold spec_CurrentsOf.f
      rw [e0, Option.bind_some, if_neg (by omega)]
      exact c1
    have e2 : impl_currents.f k (n : Int) ws = some (ws.map (curOf p)) := by
      unfold impl_currents.f
      rw [g2, Option.bind_some]
      exact c2
    have hin := cur_in p (n : Int) ws W (by omega) g4
    have hlen : (ws.map (curOf p)).length ≤ 100 := by rw [List.length_map]; omega
    have hpos : 0 < (ws.map (curOf p)).length := by rw [List.length_map]; exact List.length_pos_iff.mpr hne
    obtain ⟨d1, d2⟩ := div_f (ws.map (curOf p)) hlen (fun x hx => by have := hin x hx; omega) k (by omega)
    have hdp := divOf_pos (ws.map (curOf p))
    obtain ⟨S, hS, hs⟩ := shl_small ws.length W.len
    obtain ⟨t, t1, t2⟩ := trees_l n ws W S hS hs S k 0 0 (by omega) (by omega) (by omega)
    rw [Int.ofNat_zero] at t1 t2
    have f1 : spec_CountTrees.f k (n : Int) ws = some t := by
      unfold spec_CountTrees.f
      rw [h1, Option.bind_some, if_pos rfl, t1]
    have f2 : impl_countTrees.f k (n : Int) ws = some t := by
      unfold impl_countTrees.f
      rw [if_pos W.len, t2]
    refine ⟨(wrap64 (Int.tdiv t (divOf (ws.map (curOf p)))), wrap64 (Int.tdiv (rd p 0) (divOf (ws.map (curOf p))))), ?_, ?_⟩
    · unfold spec_RectangleSides.f
      rw [e1, Option.bind_some, if_neg (by omega), d1, Option.bind_some, f1, Option.bind_some, if_neg (by omega), e0, Option.bind_some, if_pos (by omega)]
    · unfold impl_RectangleSides.f
      rw [h2, Option.bind_some, if_pos rfl, e2, Option.bind_some, d2, Option.bind_some, f2, Option.bind_some, if_neg (by omega), g2, Option.bind_some, if_pos (by omega)]
theorem FnExactRectangleSides : laws_FnExactRectangleSides.Pure := by
  intro a l ha hm _ hw
  have hwf := wf64 ha
  refine ⟨2097160, ?_⟩
  unfold laws_FnExactRectangleSides.f
  obtain ⟨s, hs, hsz⟩ := szSS l hm (fun x hx => (hw x hx).1) 2097160 (by omega)
  rw [hs]
  simp only [Option.bind_some]
  by_cases h : s < 0
  · rw [if_pos h]
  · obtain ⟨hl, hx⟩ := hsz (by omega)
    obtain ⟨r, h1, h2⟩ := sides_eq a l hwf 2097160 (by omega)
    rw [if_neg h, toIntSS l hl hx _ (by omega)]
    simp only [Option.bind_some, h1, h2, if_true, bne_self_eq_false]
    simp only [laws_FnExactRectangleSides.j0, Bool.false_eq_true, if_false, toIntSS l hl hx 2097159 (by omega), eqIntSS_self l hl hx 2097159 (show l.length + 1048577 < 2097159 by omega), Option.bind_some, if_true]

end Go.Proofs.Ytmokeeakgacadaa.Pure
