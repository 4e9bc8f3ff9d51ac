/- FirstShelf: both texts lay the pieces, the highest ones first, onto the same shelves. -/
import Derived.Test.YtkndopemfleedaaXFnExactFirstShelfx9
namespace Go.Proofs.Ytkndopemfleedaa.Pure
open Go.RowKit Go.Proofs.Ytkndopemfleedaa.XFnExactFirstShelf Go.Proofs.YtkndopemfleedaaW.PrintWords Go.Proofs.YtkndopemfleedaaW.PrintLast
set_option linter.unusedVariables false
set_option linter.unusedSimpArgs false
theorem wf64 {x : Int} (h : (Lit.int .i64 x).wf = true) : -9223372036854775808 ≤ x ∧ x ≤ 9223372036854775807 := by
  simp only [Lit.wf, IntKind.min, IntKind.max, IntKind.signed, IntKind.bits, Bool.and_eq_true, decide_eq_true_eq, if_true] at h
  omega
theorem w64 {x : Int} (h0 : -9223372036854775808 ≤ x) (h1 : x ≤ 9223372036854775807) : wrap64 x = x := by
  unfold wrap64
  omega
theorem succ_of {d k : Nat} (h : d < k) : ∃ m, k = m + 1 := ⟨k - 1, by omega⟩
theorem rd_nat (l : List Int) (i : Nat) : rd l (i : Int) = l.getD i 0 := by simp [rd]
theorem rd_get (l : List Int) (i : Nat) (h : i < l.length) : rd l (i : Int) = l[i] := by simp [rd, List.getD_eq_getElem?_getD, h]
theorem w1 {i : Nat} (h : i ≤ 140737488355328) : wrap64 ((i : Int) + 1) = ((i + 1 : Nat) : Int) := by
  unfold wrap64
  omega
theorem lt_t {i n : Nat} (h : i < n) : ((i : Int) < (n : Int)) = True := eq_true (by omega)
theorem lt_f {i n : Nat} (h : n ≤ i) : ((i : Int) < (n : Int)) = False := eq_false (by omega)
theorem nn_t (i : Nat) : (0 ≤ (i : Int)) = True := eq_true (by omega)
theorem w64n (n : Nat) (h : n ≤ 9223372036854775807) : wrap64 (n : Int) = (n : Int) := w64 (by omega) (by omega)
theorem w64sub (a b c : Nat) (ha : a ≤ 9223372036854775807) (h : a = b + c) : wrap64 ((a : Int) - (b : Int)) = (c : Int) := by
  rw [w64 (by omega) (by omega)]
  omega

theorem toIntS_l (l : List Int) (hl : l.length ≤ 35184372088832) (d : Nat) : ∀ (k : Nat) (ys : List Int) (i : Nat), l.length - i = d → i ≤ l.length → ys.length = l.length → ys.take i = l.take i → d < k → laws_toIntS.l0 k l ys (i : Int) = some l := by
  induction d with
  | zero =>
    intro k ys i hd hi hy ht hk
    obtain ⟨k, rfl⟩ := succ_of hk
    simp only [laws_toIntS.l0]
    rw [if_neg (by omega)]
    have : i = l.length := by omega
    subst this
    rw [List.take_length, ← hy, List.take_length] at ht
    rw [ht]
  | succ d ih =>
    intro k ys i hd hi hy ht hk
    obtain ⟨k, rfl⟩ := succ_of hk
    simp only [laws_toIntS.l0]
    rw [if_pos (by omega), if_pos (by omega), if_pos (by omega), w1 (by omega), rd_get l i (by omega)]
    refine ih k _ (i + 1) (by omega) (by omega) (by simp [hy]) ?_ (by omega)
    rw [Int.toNat_natCast, List.take_add_one, List.take_add_one, List.take_set_of_le (Nat.le_refl _), ht]
    simp [hy, show i < l.length by omega]
theorem toIntS (l : List Int) (hl : l.length ≤ 35184372088832) (k : Nat) (hk : l.length < k) : laws_toIntS.f k l = some l := by
  unfold laws_toIntS.f
  rw [if_pos (by omega), if_pos (by omega)]
  exact toIntS_l l hl l.length k _ 0 (by omega) (by omega) (by simp) rfl hk
theorem eqIntS_l (l m : List Int) (hl : l.length ≤ 35184372088832) (he : l.length = m.length) (d : Nat) : ∀ (k : Nat) (i : Nat), l.length - i = d → i ≤ l.length → d < k → laws_eqIntS.l0 k l m (i : Int) = some (decide (l.drop i = m.drop i)) := by
  induction d with
  | zero =>
    intro k i hd hi hk
    obtain ⟨k, rfl⟩ := succ_of hk
    simp only [laws_eqIntS.l0]
    rw [if_neg (by omega), List.drop_of_length_le (by omega), List.drop_of_length_le (by omega)]
    simp
  | succ d ih =>
    intro k i hd hi hk
    obtain ⟨k, rfl⟩ := succ_of hk
    simp only [laws_eqIntS.l0]
    rw [if_pos (by omega), if_pos (by omega), if_pos (by omega), w1 (by omega), rd_get l i (by omega), rd_get m i (by omega), ih k (i + 1) (by omega) (by omega) (by omega)]
    have h1 := List.drop_eq_getElem_cons (show i < l.length by omega)
    have h2 := List.drop_eq_getElem_cons (show i < m.length by omega)
    by_cases e : l[i]'(by omega) = m[i]'(by omega)
    · rw [if_pos e, h1, h2]
      simp only [List.cons.injEq, e, true_and]
    · rw [if_neg e, h1, h2]
      simp only [List.cons.injEq, e, false_and, decide_false]
theorem eqIntS (l m : List Int) (hl : l.length ≤ 35184372088832) (k : Nat) (hk : l.length < k) : laws_eqIntS.f k l m = some (decide (l = m)) := by
  unfold laws_eqIntS.f
  by_cases e : l.length = m.length
  · rw [if_pos (by omega)]
    have := eqIntS_l l m hl e l.length k 0 (by omega) (by omega) hk
    simpa using this
  · rw [if_neg (by omega)]
    have : l ≠ m := fun h => e (by rw [h])
    simp [this]

theorem within_f (a b c : Int) : impl_within.f a b c = some (decide (b ≤ a ∧ a ≤ c)) := by
  unfold impl_within.f
  by_cases h : a ≥ b
  · rw [if_pos h]; simp [show b ≤ a from h]
  · rw [if_neg h]; simp [show ¬ b ≤ a from h]
theorem l01In_f (a b c : Int) : spec_l01In.f a b c = some (decide (b ≤ a ∧ a ≤ c)) := by
  unfold spec_l01In.f
  by_cases h : a ≥ b
  · rw [if_pos h]; simp [show b ≤ a from h]
  · rw [if_neg h]; simp [show ¬ b ≤ a from h]

theorem rdL_get (l : List (List Int)) (i : Nat) (h : i < l.length) : rd_L1 l (i : Int) = l[i] := by simp [rd_L1, List.getD_eq_getElem?_getD, h]
theorem maxLen_le {n : Nat} (h : n ≤ maxLen) : n ≤ 9223372036854775807 := by unfold maxLen at h; exact h
theorem szS_f (x : List Int) (hx : x.length ≤ maxLen) (left : Int) (h0 : 0 ≤ left) (h1 : left ≤ 1048576) : laws_szIntS.f x left = some (if (x.length : Int) ≤ left then left - (x.length : Int) else -1) := by
  have := maxLen_le hx
  unfold laws_szIntS.f
  rw [w64 (by omega) (by omega)]
  by_cases h : (x.length : Int) ≤ left
  · rw [if_neg (by omega), if_pos h]
  · rw [if_pos (by omega), if_neg h]
theorem szSS_l (l : List (List Int)) (hl : l.length ≤ 1048576) (hx : ∀ x ∈ l, x.length ≤ maxLen) (d : Nat) : ∀ (k i : Nat) (left : Int), l.length - i = d → i ≤ l.length → d < k → 0 ≤ left → left ≤ 1048576 → ∃ r, laws_szIntSS.l0 k l left (i : Int) = some r ∧ (0 ≤ r → ∀ (j : Nat) (hj : j < l.length), i ≤ j → (l[j]).length ≤ 1048576) := by
  induction d with
  | zero =>
    intro k i left hd hi hk h0 h1
    obtain ⟨k, rfl⟩ := succ_of hk
    refine ⟨left, ?_, fun _ j hj hij => by omega⟩
    simp only [laws_szIntSS.l0, lt_f (show l.length ≤ i by omega), if_false]
  | succ d ih =>
    intro k i left hd hi hk h0 h1
    obtain ⟨k, rfl⟩ := succ_of hk
    have hlt : i < l.length := by omega
    simp only [laws_szIntSS.l0, lt_t hlt, nn_t, if_true, rdL_get l i hlt, szS_f _ (hx _ (List.getElem_mem hlt)) left h0 h1, Option.bind_some, w1 (show i ≤ 140737488355328 by omega)]
    by_cases h : ((l[i]).length : Int) ≤ left
    · rw [if_pos h, if_neg (by omega)]
      obtain ⟨r, h2, h3⟩ := ih k (i + 1) (left - ((l[i]).length : Int)) (by omega) (by omega) (by omega) (by omega) (by omega)
      refine ⟨r, h2, fun hr j hj hij => ?_⟩
      by_cases e : j = i
      · subst e; omega
      · exact h3 hr j hj (by omega)
    · rw [if_neg h]
      exact ⟨-1, by simp, fun h => by omega⟩
theorem szSS (l : List (List Int)) (hm : l.length ≤ maxLen) (hx : ∀ x ∈ l, x.length ≤ maxLen) (k : Nat) (hk : 1048577 < k) : ∃ r, laws_szIntSS.f k l 1048576 = some r ∧ (0 ≤ r → l.length ≤ 1048576 ∧ ∀ x ∈ l, x.length ≤ 1048576) := by
  have := maxLen_le hm
  unfold laws_szIntSS.f
  rw [w64 (by omega) (by omega)]
  by_cases h : (l.length : Int) ≤ 1048576
  · rw [if_neg (by omega)]
    obtain ⟨r, h1, h2⟩ := szSS_l l (by omega) hx l.length k 0 (1048576 - (l.length : Int)) (by omega) (by omega) (by omega) (by omega) (by omega)
    refine ⟨r, h1, fun hr => ⟨by omega, fun x hx => ?_⟩⟩
    obtain ⟨j, hj, rfl⟩ := List.getElem_of_mem hx
    exact h2 hr j hj (by omega)
  · rw [if_pos (by omega)]
    exact ⟨-1, rfl, fun h => by omega⟩
theorem toIntSS_l (l : List (List Int)) (hl : l.length ≤ 1048576) (hx : ∀ x ∈ l, x.length ≤ 1048576) (d : Nat) : ∀ (k : Nat) (ys : List (List Int)) (i : Nat), l.length - i = d → i ≤ l.length → ys.length = l.length → ys.take i = l.take i → d + 1048577 < k → laws_toIntSS.l0 k l ys (i : Int) = some l := by
  induction d with
  | zero =>
    intro k ys i hd hi hy ht hk
    obtain ⟨k, rfl⟩ := succ_of (show 0 < k by omega)
    simp only [laws_toIntSS.l0, lt_f (show l.length ≤ i by omega), if_false]
    have : i = l.length := by omega
    subst this
    rw [List.take_length, ← hy, List.take_length] at ht
    rw [ht]
  | succ d ih =>
    intro k ys i hd hi hy ht hk
    obtain ⟨k, rfl⟩ := succ_of (show 0 < k by omega)
    have hlt : i < l.length := by omega
    have hx1 := hx _ (List.getElem_mem hlt)
    simp only [laws_toIntSS.l0, lt_t hlt, nn_t, if_true, rdL_get l i hlt, toIntS _ (show (l[i]).length ≤ 35184372088832 by omega) k (by omega), Option.bind_some, lt_t (show i < ys.length by omega), w1 (show i ≤ 140737488355328 by omega)]
    refine ih k _ (i + 1) (by omega) (by omega) (by simp [hy]) ?_ (by omega)
    rw [Int.toNat_natCast, List.take_add_one, List.take_add_one, List.take_set_of_le (Nat.le_refl _), ht]
    simp [hy, hlt]
theorem toIntSS (l : List (List Int)) (hl : l.length ≤ 1048576) (hx : ∀ x ∈ l, x.length ≤ 1048576) (k : Nat) (hk : l.length + 1048577 < k) : laws_toIntSS.f k l = some l := by
  unfold laws_toIntSS.f
  rw [if_pos (by omega), if_pos (by omega)]
  exact toIntSS_l l hl hx l.length k _ 0 (by omega) (by omega) (by simp) rfl hk
theorem eqIntSS_self_l (l : List (List Int)) (hl : l.length ≤ 1048576) (hx : ∀ x ∈ l, x.length ≤ 1048576) (d : Nat) : ∀ (k i : Nat), l.length - i = d → i ≤ l.length → d + 1048577 < k → laws_eqIntSS.l0 k l l (i : Int) = some true := by
  induction d with
  | zero =>
    intro k i hd hi hk
    obtain ⟨k, rfl⟩ := succ_of (show 0 < k by omega)
    simp only [laws_eqIntSS.l0, lt_f (show l.length ≤ i by omega), if_false]
  | succ d ih =>
    intro k i hd hi hk
    obtain ⟨k, rfl⟩ := succ_of (show 0 < k by omega)
    have hlt : i < l.length := by omega
    have hx1 := hx _ (List.getElem_mem hlt)
    simp only [laws_eqIntSS.l0, lt_t hlt, nn_t, if_true, rdL_get l i hlt, eqIntS _ _ (show (l[i]).length ≤ 35184372088832 by omega) k (show (l[i]).length < k by omega), Option.bind_some, w1 (show i ≤ 140737488355328 by omega), decide_true]
    exact ih k (i + 1) (by omega) (by omega) (by omega)
theorem eqIntSS_self (l : List (List Int)) (hl : l.length ≤ 1048576) (hx : ∀ x ∈ l, x.length ≤ 1048576) (k : Nat) (hk : l.length + 1048577 < k) : laws_eqIntSS.f k l l = some true := by
  unfold laws_eqIntSS.f
  rw [if_pos rfl]
  exact eqIntSS_self_l l hl hx l.length k 0 (by omega) (by omega) hk

def fitOne (w : Int) (p : List Int) : Bool := decide (p.length = 2 ∧ (1 ≤ rd p 0 ∧ rd p 0 ≤ w) ∧ (1 ≤ rd p 1 ∧ rd p 1 ≤ 100))
theorem fit_l (w : Int) (l : List (List Int)) (hl : l.length ≤ 12) (d : Nat) : ∀ (k i : Nat), l.length - i = d → i ≤ l.length → d < k → spec_PiecesFit.l0 k w l (l.length : Int) (i : Int) = some ((l.drop i).all (fitOne w)) := by
  induction d with
  | zero =>
    intro k i hd hi hk
    obtain ⟨k, rfl⟩ := succ_of hk
    simp only [spec_PiecesFit.l0, lt_f (show l.length ≤ i by omega), if_false, List.drop_of_length_le (show l.length ≤ i by omega), List.all_nil]
  | succ d ih =>
    intro k i hd hi hk
    obtain ⟨k, rfl⟩ := succ_of hk
    have hlt : i < l.length := by omega
    have hih := ih k (i + 1) (by omega) (by omega) (by omega)
    rw [List.drop_eq_getElem_cons hlt, List.all_cons]
    simp only [spec_PiecesFit.l0, lt_t hlt, nn_t, if_true, rdL_get l i hlt, l01In_f, Option.bind_some, w1 (show i ≤ 140737488355328 by omega), hih]
    generalize (l.drop (i + 1)).all (fitOne w) = q
    generalize l[i] = p
    unfold fitOne
    generalize rd p 0 = a
    generalize rd p 1 = b
    by_cases h3 : p.length = 2
    · simp only [show ((p.length : Int) = 2) = True from eq_true (by omega), show (0 < (p.length : Int)) = True from eq_true (by omega), show (1 < (p.length : Int)) = True from eq_true (by omega), h3, if_true, true_and]
      by_cases g0 : 1 ≤ a ∧ a ≤ w
      · by_cases g1 : 1 ≤ b ∧ b ≤ 100
        · simp [g0, g1]
        · simp [g0, g1]
      · simp [g0]
    · have : ¬ ((p.length : Int) = 2) := by omega
      simp [this, h3]
theorem fit_split (w : Int) (hw : w ≤ 100) (l : List (List Int)) : l.all (fitOne w) = (l.all pieceOk && l.all (fitsIn w)) := by
  induction l with
  | nil => rfl
  | cons p r ih =>
    rw [List.all_cons, List.all_cons, List.all_cons, ih]
    have : fitOne w p = (pieceOk p && fitsIn w p) := by
      rw [Bool.eq_iff_iff]
      simp only [fitOne, pieceOk, fitsIn, Bool.and_eq_true, decide_eq_true_eq]
      omega
    rw [this]
    cases pieceOk p <;> cases fitsIn w p <;> simp
theorem fit_f (w : Int) (l : List (List Int)) (k : Nat) (hk : 14 < k) : spec_PiecesFit.f k w l = impl_PiecesFit.f w l := by
  unfold spec_PiecesFit.f impl_PiecesFit.f
  obtain ⟨k, rfl⟩ := succ_of hk
  simp only [l01In_f, Option.bind_some, spec_PiecesFit.j0]
  by_cases h1 : 1 ≤ w ∧ w ≤ 100
  · by_cases h2 : l.length ≤ 12
    · have := fit_l w l h2 l.length k 0 (by omega) (by omega) (by omega)
      simp only [Int.ofNat_zero, List.drop_zero] at this
      rw [this, fit_split w h1.2 l]
      generalize l.all pieceOk = q
      generalize l.all (fitsIn w) = q2
      simp [h1, h2, show ¬ (l.length : Int) > 12 by omega]
    · simp [h1, h2, show (l.length : Int) > 12 by omega]
  · simp [h1]

theorem fit_two {w : Int} {l : List (List Int)} (h : impl_PiecesFit.f w l = some true) : (1 ≤ w ∧ w ≤ 100) ∧ l.length ≤ 12 ∧ ∀ p ∈ l, p.length = 2 ∧ (1 ≤ rd p 0 ∧ rd p 0 ≤ w) ∧ (1 ≤ rd p 1 ∧ rd p 1 ≤ 100) := by
  unfold impl_PiecesFit.f at h
  simp only [Option.some.injEq, Bool.and_eq_true, decide_eq_true_eq, List.all_eq_true] at h
  obtain ⟨h1, ⟨h2, h3⟩, h4⟩ := h
  refine ⟨h1, h2, fun p hp => ?_⟩
  have a := h3 p hp
  have b := h4 p hp
  simp only [pieceOk, fitsIn, decide_eq_true_eq] at a b
  omega

theorem more_of {α : Type} {f : Nat → Option α} (h : ∀ k, LeO (f k) (f (k + 1))) {k : Nat} {r : α} (hr : f k = some r) (K : Nat) (hK : k ≤ K) : f K = some r := by
  obtain ⟨m, rfl⟩ := Nat.exists_eq_add_of_le hK
  clear hK
  induction m with
  | zero => exact hr
  | succ m ih => exact h (k + m) _ ih

def iota (n : Nat) : List Int := (List.range n).map fun j : Nat => (j : Int)
theorem iota_len (n : Nat) : (iota n).length = n := by simp [iota]
theorem iota_snoc (n : Nat) : iota n ++ [(n : Int)] = iota (n + 1) := by simp [iota, List.range_succ]
theorem iota_drop (n i : Nat) (h : i < n) : (iota n).drop i = (i : Int) :: (iota n).drop (i + 1) := by
  rw [List.drop_eq_getElem_cons (by rw [iota_len]; exact h)]
  simp [iota]
def ht (l : List (List Int)) (i : Int) : Int := rd (rd_L1 l i) 1
def posGo (l : List (List Int)) (S : List Int) (x : Int) : Nat → Nat
  | 0 => 0
  | k + 1 => if ht l (rd S (k : Int)) < ht l x then posGo l S x k else k + 1
theorem posGo_le (l : List (List Int)) (S : List Int) (x : Int) : ∀ k, posGo l S x k ≤ k
  | 0 => Nat.le_refl _
  | k + 1 => by
    unfold posGo
    split
    · have := posGo_le l S x k; omega
    · exact Nat.le_refl _
def insAt (S : List Int) (x : Int) (p : Nat) : List Int := S.take p ++ x :: S.drop p
theorem insAt_len (S : List Int) (x : Int) (p : Nat) : (insAt S x p).length = S.length + 1 := by
  simp [insAt, List.length_take, List.length_drop]
  omega
theorem insAt_mem {S : List Int} {x : Int} {p : Nat} {y : Int} (h : y ∈ insAt S x p) : y = x ∨ y ∈ S := by
  unfold insAt at h
  rw [List.mem_append, List.mem_cons] at h
  rcases h with h | h | h
  · exact .inr (List.mem_of_mem_take h)
  · exact .inl h
  · exact .inr (List.mem_of_mem_drop h)
def orderGo (l : List (List Int)) : Nat → Nat → List Int → List Int
  | 0, _, S => S
  | d + 1, i, S => orderGo l d (i + 1) (insAt S (i : Int) (posGo l S (i : Int) S.length))
theorem orderGo_len (l : List (List Int)) : ∀ (d i : Nat) (S : List Int), (orderGo l d i S).length = S.length + d
  | 0, _, _ => rfl
  | d + 1, i, S => by rw [orderGo, orderGo_len l d, insAt_len]; omega
structure Pieces (l : List (List Int)) : Prop where
  len : l.length ≤ 12
  each : ∀ i : Int, 0 ≤ i → i < (l.length : Int) → (rd_L1 l i).length = 2 ∧ 1 ≤ ht l i ∧ ht l i ≤ 100
theorem order_l1 (l : List (List Int)) (W : Pieces l) (S : List Int) (hS : ∀ x ∈ S, 0 ≤ x ∧ x < (l.length : Int)) (hSl : S.length ≤ 12) (x : Int) (hx : 0 ≤ x ∧ x < (l.length : Int)) (n i : Int) (Q : List Int) : ∀ (j k : Nat), j ≤ S.length → j < k → (∀ k', k ≤ k' + j + 1 → spec_l15Order.l0 k' l (insAt S x (posGo l S x j)) l n (wrap64 (i + 1)) = some Q) → spec_l15Order.l1 k l S x (rd_L1 l x) (j : Int) l n i = some Q := by
  intro j
  induction j with
  | zero =>
    intro k hj hk hQ
    obtain ⟨k, rfl⟩ := succ_of hk
    have := hQ k (by omega)
    simp only [posGo, insAt, List.take_zero, List.nil_append, List.drop_zero] at this
    simp only [spec_l15Order.l1]
    rw [if_neg (by simp)]
    simp only [Option.bind_some, Int.ofNat_zero, Int.le_refl, if_true, Int.toNat_zero, List.take_zero, List.nil_append, List.length_nil, List.drop_zero, List.length_cons]
    rw [if_pos (by omega), if_pos (by omega), if_pos (by omega), if_pos (by omega)]
    exact this
  | succ j ih =>
    intro k hj hk hQ
    obtain ⟨k, rfl⟩ := succ_of (show 0 < k by omega)
    have hw : wrap64 (((j + 1 : Nat) : Int) - 1) = (j : Int) := by rw [w64 (by omega) (by omega)]; omega
    have hmem : rd S (j : Int) ∈ S := by rw [rd_get S j (by omega)]; exact List.getElem_mem _
    have hr := hS _ hmem
    have he := W.each _ hr.1 hr.2
    have hxe := W.each _ hx.1 hx.2
    simp only [spec_l15Order.l1, hw]
    rw [if_pos (by omega), if_pos (by omega), if_pos (by omega), if_pos hr.1, if_pos hr.2, if_pos (by omega), if_pos (by omega)]
    unfold posGo at hQ
    by_cases c : ht l (rd S (j : Int)) < ht l x
    · rw [if_pos c] at hQ
      rw [if_pos (show rd (rd_L1 l (rd S (j : Int))) 1 < rd (rd_L1 l x) 1 from c)]
      exact ih k (by omega) (by omega) (fun k' hk' => hQ k' (by omega))
    · rw [if_neg c] at hQ
      rw [if_neg (show ¬ rd (rd_L1 l (rd S (j : Int))) 1 < rd (rd_L1 l x) 1 from c)]
      have h2 := hQ k (by omega)
      have ht : (S.take (j + 1)).length = j + 1 := by rw [List.length_take]; omega
      simp only [Option.bind_some, List.nil_append, List.length_nil, Int.toNat_natCast]
      rw [if_pos (by omega), if_pos (by omega), if_pos (by omega), if_pos (by omega), if_pos (by simp; omega)]
      unfold insAt at h2
      rw [List.append_assoc]
      exact h2
theorem order_l0 (l : List (List Int)) (W : Pieces l) (d : Nat) : ∀ (k i : Nat) (S : List Int), l.length - i = d → i ≤ l.length → S.length = i → (∀ x ∈ S, 0 ≤ x ∧ x < (l.length : Int)) → 20 * d + 20 < k → spec_l15Order.l0 k l S l (l.length : Int) (i : Int) = some (orderGo l d i S) := by
  have hl := W.len
  induction d with
  | zero =>
    intro k i S hd hi hSl hS hk
    obtain ⟨k, rfl⟩ := succ_of (show 0 < k by omega)
    simp only [spec_l15Order.l0, lt_f (show l.length ≤ i by omega), if_false, orderGo]
  | succ d ih =>
    intro k i S hd hi hSl hS hk
    obtain ⟨k, rfl⟩ := succ_of (show 0 < k by omega)
    have hlt : i < l.length := by omega
    simp only [spec_l15Order.l0, lt_t hlt, nn_t, if_true, orderGo]
    refine order_l1 l W S hS (by omega) (i : Int) (by omega) _ (i : Int) _ S.length k (Nat.le_refl _) (by omega) (fun k' hk' => ?_)
    rw [w1 (show i ≤ 140737488355328 by omega)]
    exact ih k' (i + 1) _ (by omega) (by omega) (by rw [insAt_len]; omega) (fun y hy => by
      rcases insAt_mem hy with h | h
      · rw [h]; omega
      · exact hS y h) (by omega)
theorem swap_step (S R : List Int) (x : Int) (j : Nat) (hj : j < S.length) : ((S.take (j + 1) ++ x :: (S.drop (j + 1) ++ R)).set (j + 1) S[j]).set j x = S.take j ++ x :: (S.drop j ++ R) := by
  have h1 : S.take (j + 1) = S.take j ++ [S[j]] := (List.take_append_getElem hj).symm
  have hl : (S.take j).length = j := by rw [List.length_take]; omega
  rw [h1, List.drop_eq_getElem_cons hj]
  generalize S[j] = s
  generalize S.take j = T at hl
  generalize S.drop (j + 1) = D
  subst hl
  simp [List.set_append]
theorem at_pos (S R : List Int) (x : Int) (j : Nat) (hj : j ≤ S.length) : rd (S.take j ++ x :: (S.drop j ++ R)) (j : Int) = x := by
  have hl : (S.take j).length = j := by rw [List.length_take]; omega
  rw [rd_get _ _ (by rw [List.length_append, hl, List.length_cons]; omega), List.getElem_append_right (by omega)]
  simp [hl]
theorem before_pos (S R : List Int) (x : Int) (j : Nat) (hj : j + 1 ≤ S.length) : rd (S.take (j + 1) ++ x :: (S.drop (j + 1) ++ R)) (j : Int) = rd S (j : Int) := by
  have hl : (S.take (j + 1)).length = j + 1 := by rw [List.length_take]; omega
  rw [rd_get _ _ (by rw [List.length_append, hl]; omega), rd_get S j (by omega), List.getElem_append_left (by omega)]
  simp
theorem sort_l1 (l : List (List Int)) (W : Pieces l) (S R : List Int) (hS : ∀ x ∈ S, 0 ≤ x ∧ x < (l.length : Int)) (hSl : S.length + R.length ≤ 20) (x : Int) (hx : 0 ≤ x ∧ x < (l.length : Int)) (n i : Int) (Q : List Int) : ∀ (j k : Nat), j ≤ S.length → j < k → (∀ k', k ≤ k' + j + 1 → slices_insertionSortCmpFunc_int.l0 (byHeight.cf l) k' (S.take (posGo l S x j) ++ x :: (S.drop (posGo l S x j) ++ R)) 0 n (wrap64 (i + 1)) = some Q) → slices_insertionSortCmpFunc_int.l1 (byHeight.cf l) k (S.take j ++ x :: (S.drop j ++ R)) 0 n i (j : Int) = some Q := by
  intro j
  induction j with
  | zero =>
    intro k hj hk hQ
    obtain ⟨k, rfl⟩ := succ_of hk
    simp only [slices_insertionSortCmpFunc_int.l1]
    rw [if_neg (by simp)]
    exact hQ k (by omega)
  | succ j ih =>
    intro k hj hk hQ
    obtain ⟨k, rfl⟩ := succ_of (show 0 < k by omega)
    have hw : wrap64 (((j + 1 : Nat) : Int) - 1) = (j : Int) := by rw [w64 (by omega) (by omega)]; omega
    have hmem : rd S (j : Int) ∈ S := by rw [rd_get S j (by omega)]; exact List.getElem_mem _
    have hr := hS _ hmem
    have he := W.each _ hr.1 hr.2
    have hxe := W.each _ hx.1 hx.2
    have hlen : (S.take (j + 1) ++ x :: (S.drop (j + 1) ++ R)).length = S.length + 1 + R.length := by
      simp [List.length_take, List.length_drop]
      omega
    have hcf : byHeight.cf l x (rd S (j : Int)) = some (ht l (rd S (j : Int)) - ht l x) := by
      unfold byHeight.cf
      rw [if_pos ⟨hx, hr, by omega, by omega⟩]
      congr 1
      exact w64 (by unfold ht at *; omega) (by unfold ht at *; omega)
    simp only [slices_insertionSortCmpFunc_int.l1, hw, hlen, at_pos S R x (j + 1) hj, before_pos S R x j hj, hcf, Option.bind_some, Int.toNat_natCast]
    rw [if_pos (by omega), if_pos (by omega), if_pos (by omega), if_pos (by omega), if_pos (by omega)]
    unfold posGo at hQ
    by_cases c : ht l (rd S (j : Int)) < ht l x
    · rw [if_pos c] at hQ
      rw [if_pos (by omega), rd_get S j (by omega), swap_step S R x j (by omega)]
      exact ih k (by omega) (by omega) (fun k' hk' => hQ k' (by omega))
    · rw [if_neg c] at hQ
      rw [if_neg (by omega)]
      exact hQ k (by omega)
theorem sort_l0 (l : List (List Int)) (W : Pieces l) (d : Nat) : ∀ (k i : Nat) (S : List Int), l.length - i = d → i ≤ l.length → S.length = i → (∀ x ∈ S, 0 ≤ x ∧ x < (l.length : Int)) → 20 * d + 20 < k → slices_insertionSortCmpFunc_int.l0 (byHeight.cf l) k (S ++ (iota l.length).drop i) 0 (l.length : Int) (i : Int) = some (orderGo l d i S) := by
  have hl := W.len
  induction d with
  | zero =>
    intro k i S hd hi hSl hS hk
    obtain ⟨k, rfl⟩ := succ_of (show 0 < k by omega)
    simp only [slices_insertionSortCmpFunc_int.l0, lt_f (show l.length ≤ i by omega), if_false, orderGo]
    rw [List.drop_of_length_le (by rw [iota_len]; omega), List.append_nil]
  | succ d ih =>
    intro k i S hd hi hSl hS hk
    obtain ⟨k, rfl⟩ := succ_of (show 0 < k by omega)
    have hlt : i < l.length := by omega
    simp only [slices_insertionSortCmpFunc_int.l0, lt_t hlt, if_true, orderGo]
    rw [iota_drop l.length i hlt]
    have hR : ((iota l.length).drop (i + 1)).length = l.length - (i + 1) := by rw [List.length_drop, iota_len]
    have := sort_l1 l W S ((iota l.length).drop (i + 1)) hS (by omega) (i : Int) (by omega) (l.length : Int) (i : Int) (orderGo l d (i + 1) (insAt S (i : Int) (posGo l S (i : Int) S.length))) S.length k (Nat.le_refl _) (by omega) (fun k' hk' => by
      rw [w1 (show i ≤ 140737488355328 by omega)]
      have h2 := ih k' (i + 1) (insAt S (i : Int) (posGo l S (i : Int) S.length)) (by omega) (by omega) (by rw [insAt_len]; omega) (fun y hy => by
        rcases insAt_mem hy with h | h
        · rw [h]; omega
        · exact hS y h) (by omega)
      rw [insAt, List.append_assoc, List.cons_append] at h2
      exact h2)
    rw [List.take_length, List.drop_length, List.nil_append] at this
    subst hSl
    exact this
theorem iota_l (n : Nat) (hn : n ≤ 12) (d : Nat) : ∀ (k i : Nat), n - i = d → i ≤ n → d < k → impl_ByHeight.l0 k (n : Int) (iota i) (i : Int) = some (iota n) := by
  induction d with
  | zero =>
    intro k i hd hi hk
    obtain ⟨k, rfl⟩ := succ_of hk
    obtain rfl : i = n := by omega
    simp only [impl_ByHeight.l0, lt_f (Nat.le_refl i), if_false]
  | succ d ih =>
    intro k i hd hi hk
    obtain ⟨k, rfl⟩ := succ_of hk
    have hlt : i < n := by omega
    simp only [impl_ByHeight.l0, lt_t hlt, if_true, iota_len, show (i < 17592186044416) = True from eq_true (by omega), iota_snoc, w1 (show i ≤ 140737488355328 by omega)]
    exact ih k (i + 1) (by omega) (by omega) (by omega)
theorem pieces_of (l : List (List Int)) (hl : l.length ≤ 12) (h : l.all pieceOk = true) : Pieces l := ⟨hl, fun i h0 h1 => by
  obtain ⟨m, rfl⟩ := Int.eq_ofNat_of_zero_le h0
  have hm : m < l.length := by omega
  have := List.all_eq_true.mp h _ (List.getElem_mem hm)
  unfold ht
  rw [rdL_get l m hm]
  simp only [pieceOk, decide_eq_true_eq] at this
  omega⟩
theorem order_eq (l : List (List Int)) (W : Pieces l) (k : Nat) (hk : 300 < k) : spec_l15Order.f k l = some (orderGo l l.length 0 []) ∧ ((impl_ByHeight.l0 k (l.length : Int) [] 0).bind fun out => if out.length < 20 then slices_insertionSortCmpFunc_int.f (byHeight.cf l) k out 0 (out.length : Int) else none) = some (orderGo l l.length 0 []) := by
  have hl := W.len
  constructor
  · exact order_l0 l W l.length k 0 [] (by omega) (by omega) rfl (by simp) (by omega)
  · have h1 := iota_l l.length hl l.length k 0 (by omega) (by omega) (by omega)
    have e0 : iota 0 = [] := rfl
    rw [e0, Int.ofNat_zero] at h1
    rw [h1, Option.bind_some, iota_len, if_pos (by omega)]
    unfold slices_insertionSortCmpFunc_int.f
    have hw : wrap64 (0 + 1) = ((1 : Nat) : Int) := w64 (by omega) (by omega)
    rw [hw]
    by_cases hn : l.length = 0
    · obtain ⟨k, rfl⟩ := succ_of (show 0 < k by omega)
      rw [hn]
      simp [slices_insertionSortCmpFunc_int.l0, orderGo, iota]
    · have h2 := sort_l0 l W (l.length - 1) k 1 [0] (by omega) (by omega) rfl (by simp; omega) (by omega)
      have e1 : [0] ++ (iota l.length).drop 1 = iota l.length := by
        have := iota_drop l.length 0 (by omega)
        rw [List.drop_zero] at this
        rw [this]
        rfl
      rw [e1] at h2
      rw [h2]
      obtain ⟨m, hm⟩ : ∃ m, l.length = m + 1 := ⟨l.length - 1, by omega⟩
      rw [hm]
      rfl

theorem mk_l (n : Nat) (a : Int) (h0 : 0 ≤ a) (h1 : a + (n : Int) ≤ 4611686018427387904) (hn : n ≤ 140737488355328) (d : Nat) : ∀ (k i : Nat), n - i = d → i ≤ n → d < k → mk.l0 k n (a + (i : Int)) (i : Int) = some (a + (n : Int)) := by
  induction d with
  | zero =>
    intro k i hd hi hk
    obtain ⟨k, rfl⟩ := succ_of hk
    have : i = n := by omega
    subst this
    simp only [mk.l0, lt_f (Nat.le_refl i), if_false]
  | succ d ih =>
    intro k i hd hi hk
    obtain ⟨k, rfl⟩ := succ_of hk
    have hlt : i < n := by omega
    simp only [mk.l0, lt_t hlt, nn_t, if_true, w1 (show i ≤ 140737488355328 by omega)]
    rw [w64 (by omega) (by omega), show a + (i : Int) + 1 = a + ((i + 1 : Nat) : Int) by omega]
    exact ih k (i + 1) (by omega) (by omega) (by omega)
theorem markSS_l (l : List (List Int)) (hl : l.length ≤ 1048576) (hx : ∀ x ∈ l, x.length ≤ 1048576) (d : Nat) : ∀ (k i : Nat) (a : Int), l.length - i = d → i ≤ l.length → d + 1048577 < k → 1 ≤ a → a ≤ 1 + 1048576 * (i : Int) → ∃ t, laws_markIntSS.l0 k l a (i : Int) = some t ∧ 0 ≤ t := by
  induction d with
  | zero =>
    intro k i a hd hi hk h0 h1
    obtain ⟨k, rfl⟩ := succ_of (show 0 < k by omega)
    exact ⟨a, by simp only [laws_markIntSS.l0, lt_f (show l.length ≤ i by omega), if_false], by omega⟩
  | succ d ih =>
    intro k i a hd hi hk h0 h1
    obtain ⟨k, rfl⟩ := succ_of (show 0 < k by omega)
    have hlt : i < l.length := by omega
    have hxi := hx _ (List.getElem_mem hlt)
    have hm := mk_l (l[i]).length a (by omega) (by omega) (by omega) (l[i]).length k 0 (by omega) (by omega) (by omega)
    rw [Int.ofNat_zero, Int.add_zero] at hm
    simp only [laws_markIntSS.l0, lt_t hlt, nn_t, if_true, rdL_get l i hlt, hm, Option.bind_some, w1 (show i ≤ 140737488355328 by omega)]
    exact ih k (i + 1) _ (by omega) (by omega) (by omega) (by omega) (by omega)
theorem markSS (l : List (List Int)) (hl : l.length ≤ 1048576) (hx : ∀ x ∈ l, x.length ≤ 1048576) (k : Nat) (hk : l.length + 1048577 < k) : ∃ t, laws_markIntSS.f k l 1 = some t ∧ 0 ≤ t := by
  have := markSS_l l hl hx l.length k 0 1 (by omega) (by omega) hk (by omega) (by omega)
  exact this

theorem rdT_get (l : List S40) (i : Nat) (h : i < l.length) : rd_T40 l (i : Int) = l[i] := by simp [rd_T40, List.getD_eq_getElem?_getD, h]
theorem eqPointS_self_l (l : List S40) (hl : l.length ≤ 1048576) (d : Nat) : ∀ (k i : Nat), l.length - i = d → i ≤ l.length → d < k → laws_eqPointS.l0 k l l (i : Int) = some true := by
  induction d with
  | zero =>
    intro k i hd hi hk
    obtain ⟨k, rfl⟩ := succ_of hk
    simp only [laws_eqPointS.l0, lt_f (show l.length ≤ i by omega), if_false]
  | succ d ih =>
    intro k i hd hi hk
    obtain ⟨k, rfl⟩ := succ_of hk
    have hlt : i < l.length := by omega
    simp only [laws_eqPointS.l0, lt_t hlt, nn_t, if_true, laws_eqPoint.f, Option.bind_some, w1 (show i ≤ 140737488355328 by omega)]
    exact ih k (i + 1) (by omega) (by omega) (by omega)
theorem eqPointS_self (l : List S40) (hl : l.length ≤ 1048576) (k : Nat) (hk : l.length < k) : laws_eqPointS.f k l l = some true := by
  unfold laws_eqPointS.f
  rw [if_pos rfl]
  exact eqPointS_self_l l hl l.length k 0 (by omega) (by omega) hk
def markedP (a : Int) (n : Nat) : List S40 := (List.range n).map fun j : Nat => ⟨a + 2 * (j : Int), a + 2 * (j : Int) + 1⟩
theorem markedP_len (a : Int) (n : Nat) : (markedP a n).length = n := by simp [markedP]
theorem markP_l (n : Nat) (hn : n ≤ 1000) (d : Nat) : ∀ (k i : Nat) (l : List S40), n - i = d → i ≤ n → l.length = n → l.take i = markedP 1 i → d < k → laws_markPointS.l0 k l (1 + 2 * (i : Int)) (i : Int) = some (1 + 2 * (n : Int), markedP 1 n) := by
  induction d with
  | zero =>
    intro k i l hd hi hl ht hk
    obtain ⟨k, rfl⟩ := succ_of hk
    have : i = n := by omega
    subst this
    subst hl
    simp only [laws_markPointS.l0, lt_f (Nat.le_refl l.length), if_false]
    rw [List.take_length] at ht
    rw [← ht]
  | succ d ih =>
    intro k i l hd hi hl ht hk
    obtain ⟨k, rfl⟩ := succ_of hk
    have hlt : i < l.length := by omega
    simp only [laws_markPointS.l0, lt_t hlt, nn_t, if_true, Option.bind_some, Int.toNat_natCast, w1 (show i ≤ 140737488355328 by omega)]
    generalize (rd_T40 l (i : Int)).f1 = f
    rw [w64 (x := 1 + 2 * (i : Int) + 1) (by omega) (by omega), w64 (by omega) (by omega), rdT_get (l.set i ⟨1 + 2 * (i : Int), f⟩) i (by rw [List.length_set]; exact hlt), List.getElem_set_self, List.set_set, show 1 + 2 * (i : Int) + 1 + 1 = 1 + 2 * ((i + 1 : Nat) : Int) by omega]
    refine ih k (i + 1) _ (by omega) (by omega) (by rw [List.length_set]; exact hl) ?_ (by omega)
    rw [List.take_add_one, List.take_set_of_le (Nat.le_refl _), ht, List.getElem?_set_self hlt]
    simp [markedP, List.range_succ]
theorem markP_f (l : List S40) (hn : l.length ≤ 1000) (k : Nat) (hk : l.length < k) : laws_markPointS.f k l 1 = some (1 + 2 * (l.length : Int), markedP 1 l.length) := by
  have := markP_l l.length hn l.length k 0 l (by omega) (by omega) rfl (by simp [markedP]) hk
  exact this
theorem heldP_l (n : Nat) (hn : n ≤ 1000) (d : Nat) : ∀ (k i : Nat), n - i = d → i ≤ n → d < k → laws_heldPointS.l0 k (markedP 1 n) (1 + 2 * (i : Int)) (i : Int) = some (1 + 2 * (n : Int)) := by
  induction d with
  | zero =>
    intro k i hd hi hk
    obtain ⟨k, rfl⟩ := succ_of hk
    have : i = n := by omega
    subst this
    simp only [laws_heldPointS.l0, markedP_len, lt_f (Nat.le_refl i), if_false]
  | succ d ih =>
    intro k i hd hi hk
    obtain ⟨k, rfl⟩ := succ_of hk
    have hlt : i < n := by omega
    have e : rd_T40 (markedP 1 n) (i : Int) = ⟨1 + 2 * (i : Int), 1 + 2 * (i : Int) + 1⟩ := by
      rw [rdT_get _ _ (by rw [markedP_len]; exact hlt)]
      simp [markedP]
    simp only [laws_heldPointS.l0, markedP_len, lt_t hlt, nn_t, if_true, w1 (show i ≤ 140737488355328 by omega), e]
    rw [w64 (x := 1 + 2 * (i : Int) + 1) (by omega) (by omega), w64 (by omega) (by omega), if_pos rfl, show 1 + 2 * (i : Int) + 1 + 1 = 1 + 2 * ((i + 1 : Nat) : Int) by omega]
    exact ih k (i + 1) (by omega) (by omega) (by omega)
theorem heldP_f (n : Nat) (hn : n ≤ 1000) (k : Nat) (hk : n < k) : laws_heldPointS.f k (markedP 1 n) 1 = some (1 + 2 * (n : Int)) := by
  have := heldP_l n hn n k 0 (by omega) (by omega) hk
  exact this

def fitsAt (st : List (Int × Int)) (wd w : Int) (k : Nat) : Prop := (rdP st (k : Int)).2 + w ≤ wd
instance (st : List (Int × Int)) (wd w : Int) (k : Nat) : Decidable (fitsAt st wd w k) := by unfold fitsAt; infer_instance
def posS (st : List (Int × Int)) (wd w : Int) (s : Nat) : Nat → Nat → Nat
  | 0, k => k
  | d + 1, k => if s ≤ k ∧ fitsAt st wd w k then k else posS st wd w s d (k + 1)
theorem posS_le (st : List (Int × Int)) (wd w : Int) (s : Nat) : ∀ d k, k ≤ posS st wd w s d k ∧ posS st wd w s d k ≤ k + d
  | 0, k => by simp [posS]
  | d + 1, k => by
    unfold posS
    have := posS_le st wd w s d (k + 1)
    split <;> omega
theorem posS_hit (st : List (Int × Int)) (wd w : Int) (s : Nat) : ∀ d k, posS st wd w s d k < k + d → fitsAt st wd w (posS st wd w s d k)
  | 0, k, h => by simp [posS] at h
  | d + 1, k, h => by
    unfold posS at h ⊢
    by_cases c : s ≤ k ∧ fitsAt st wd w k
    · rw [if_pos c]; exact c.2
    · rw [if_neg c] at h ⊢
      exact posS_hit st wd w s d (k + 1) (by omega)
theorem posS_from (st : List (Int × Int)) (wd w : Int) (s n : Nat) (hs : s ≤ n) : ∀ j, j ≤ s → posS st wd w s n 0 = posS st wd w s (n - j) j
  | 0, _ => rfl
  | j + 1, h => by
    rw [posS_from st wd w s n hs j (by omega)]
    obtain ⟨m, hm⟩ : ∃ m, n - j = m + 1 := ⟨n - j - 1, by omega⟩
    rw [hm, posS, if_neg (fun c => by have := c.1; omega), show n - (j + 1) = m by omega]
def stO (out : List S40) (st : List (Int × Int)) (ht p : Int) (at_ : Nat) : List S40 := if at_ < st.length then out.set p.toNat ⟨(rdP st (at_ : Int)).2, (rdP st (at_ : Int)).1⟩ else out.set p.toNat ⟨0, ht⟩
def stS (st : List (Int × Int)) (ht w : Int) (at_ : Nat) : List (Int × Int) := if at_ < st.length then st.set at_ ((rdP st (at_ : Int)).1, (rdP st (at_ : Int)).2 + w) else st ++ [(ht, 0 + w)]
def stH (st : List (Int × Int)) (ht h : Int) (at_ : Nat) : Int := if at_ < st.length then ht else ht + h
theorem stO_len (out : List S40) (st : List (Int × Int)) (ht p : Int) (at_ : Nat) : (stO out st ht p at_).length = out.length := by unfold stO; split <;> simp
def startAt (last : Bool) (n : Nat) : Nat := if last = true then n - 1 else 0
def layF (last : Bool) (wd : Int) (ps : List (List Int)) : List Int → List S40 → List (Int × Int) → Int → List S40 × Int
  | [], out, _, ht => (out, ht)
  | p :: o, out, st, ht => layF last wd ps o (stO out st ht p (posS st wd (rd (rd_L1 ps p) 0) (startAt last st.length) st.length 0)) (stS st ht (rd (rd_L1 ps p) 0) (posS st wd (rd (rd_L1 ps p) 0) (startAt last st.length) st.length 0)) (stH st ht (rd (rd_L1 ps p) 1) (posS st wd (rd (rd_L1 ps p) 0) (startAt last st.length) st.length 0))
theorem layF_len (last : Bool) (wd : Int) (ps : List (List Int)) : ∀ (o : List Int) (out : List S40) (st : List (Int × Int)) (ht : Int), (layF last wd ps o out st ht).1.length = out.length
  | [], _, _, _ => rfl
  | p :: o, out, st, ht => by rw [layF, layF_len last wd ps o, stO_len]
structure Strip (wd : Int) (ps : List (List Int)) : Prop where
  wd_ok : 1 ≤ wd ∧ wd ≤ 100
  len : ps.length ≤ 12
  each : ∀ i : Int, 0 ≤ i → i < (ps.length : Int) → (rd_L1 ps i).length = 2 ∧ (1 ≤ rd (rd_L1 ps i) 0 ∧ rd (rd_L1 ps i) 0 ≤ wd) ∧ (1 ≤ rd (rd_L1 ps i) 1 ∧ rd (rd_L1 ps i) 1 ≤ 100)
def StOk (st : List (Int × Int)) : Prop := ∀ x ∈ st, 0 ≤ x.2 ∧ x.2 ≤ 100
theorem rdP_mem {st : List (Int × Int)} {k : Nat} (h : k < st.length) : rdP st (k : Int) ∈ st := by
  have e : rdP st (k : Int) = st[k] := by simp [rdP, List.getD_eq_getElem?_getD, h]
  rw [e]
  exact List.getElem_mem h
theorem stS_ok {st : List (Int × Int)} (h : StOk st) {wd w ht : Int} (hw : 1 ≤ w ∧ w ≤ wd) (hwd : wd ≤ 100) {at_ : Nat} (hf : at_ < st.length → fitsAt st wd w at_) : StOk (stS st ht w at_) := by
  intro x hx
  unfold stS at hx
  by_cases c : at_ < st.length
  · rw [if_pos c] at hx
    rcases List.mem_or_eq_of_mem_set hx with hx | hx
    · exact h x hx
    · have h1 := h _ (rdP_mem c)
      have h2 := hf c
      unfold fitsAt at h2
      subst hx
      exact ⟨by simp only; omega, by simp only; omega⟩
  · rw [if_neg c, List.mem_append, List.mem_singleton] at hx
    rcases hx with hx | hx
    · exact h x hx
    · subst hx
      exact ⟨by simp only; omega, by simp only; omega⟩
theorem stS_len (st : List (Int × Int)) (ht w : Int) (at_ : Nat) : (stS st ht w at_).length ≤ st.length + 1 := by unfold stS; split <;> simp
theorem shv_l1 (ff : Int → Option Int) (wd : Int) (ps : List (List Int)) (W : Strip wd ps) (od : List Int) (out : List S40) (st : List (Int × Int)) (hst : StOk st) (hsl : st.length ≤ 100) (ht : Int) (hht : 0 ≤ ht ∧ ht ≤ 100000) (i p : Int) (p0 : 0 ≤ p) (p1 : p < (ps.length : Int)) (hout : out.length = ps.length) (s K : Nat) (Q : List S40 × Int) (d : Nat) : ∀ k : Nat, k ≤ st.length → st.length - k = d → s ≤ k →
    (∀ k', K ≤ k' → shv.l0 ff k' wd ps od (stO out st ht p (posS st wd (rd (rd_L1 ps p) 0) s d k)) (stS st ht (rd (rd_L1 ps p) 0) (posS st wd (rd (rd_L1 ps p) 0) s d k)) (stH st ht (rd (rd_L1 ps p) 1) (posS st wd (rd (rd_L1 ps p) 0) s d k)) (wrap64 (i + 1)) = some Q) →
    shv.l1 ff (K + d + 1) wd ps od out st ht i p (k : Int) = some Q := by
  obtain ⟨e1, e2, e3⟩ := W.each p p0 p1
  have hwd := W.wd_ok
  induction d with
  | zero =>
    intro k hk hd hs hQ
    have ek : k = st.length := by omega
    subst ek
    rw [Nat.add_zero, shv.l1, if_pos ⟨⟨p0, p1⟩, e1, by omega, by omega, by omega⟩, if_neg (by omega), if_pos rfl]
    have := hQ K (Nat.le_refl _)
    simp only [posS, stO, stS, stH, Nat.lt_irrefl, if_false] at this
    rw [w64 (x := 0 + rd (rd_L1 ps p) 0) (by omega) (by omega), w64 (x := ht + rd (rd_L1 ps p) 1) (by omega) (by omega)]
    exact this
  | succ d ih =>
    intro k hk hd hs hQ
    have hlt : k < st.length := by omega
    have hb := hst _ (rdP_mem hlt)
    rw [show K + (d + 1) + 1 = (K + d + 1) + 1 by omega, shv.l1, if_pos ⟨⟨p0, p1⟩, e1, by omega, by omega, by omega⟩, if_pos (by omega), w64 (x := (rdP st (k : Int)).2 + rd (rd_L1 ps p) 0) (by omega) (by omega)]
    rw [posS] at hQ
    by_cases c : fitsAt st wd (rd (rd_L1 ps p) 0) k
    · rw [if_pos ⟨hs, c⟩] at hQ
      unfold fitsAt at c
      rw [if_neg (by omega)]
      have := hQ (K + d + 1) (by omega)
      simp only [stO, stS, stH, if_pos hlt] at this
      rw [Int.toNat_natCast]
      exact this
    · rw [if_neg (fun h => c h.2)] at hQ
      unfold fitsAt at c
      rw [if_pos (by omega), w1 (by omega)]
      exact ih (k + 1) (by omega) (by omega) (by omega) hQ
theorem stH_le (st : List (Int × Int)) (ht h : Int) (at_ : Nat) (h0 : 0 ≤ h) (h1 : h ≤ 100) : ht ≤ stH st ht h at_ ∧ stH st ht h at_ ≤ ht + 100 := by unfold stH; split <;> omega
theorem shv_l0 (ff : Int → Option Int) (last : Bool) (hff : ∀ n : Nat, n ≤ 100 → ∃ m, ff (n : Int) = some m ∧ mx 0 m = ((startAt last n : Nat) : Int)) (wd : Int) (ps : List (List Int)) (W : Strip wd ps) (od : List Int) (hod : ∀ x ∈ od, 0 ≤ x ∧ x < (ps.length : Int)) (hol : od.length ≤ 12) (d : Nat) : ∀ (k c : Nat) (out : List S40) (st : List (Int × Int)) (ht : Int), od.length - c = d → c ≤ od.length → StOk st → st.length ≤ c → 0 ≤ ht → ht ≤ 100 * (c : Int) → out.length = ps.length → 200 * d < k →
    shv.l0 ff k wd ps od out st ht (c : Int) = some (layF last wd ps (od.drop c) out st ht) := by
  induction d with
  | zero =>
    intro k c out st ht hd hc hst hsl h0 h1 hout hk
    obtain ⟨k, rfl⟩ := succ_of hk
    rw [shv.l0, if_neg (by omega), List.drop_of_length_le (by omega)]
    rfl
  | succ d ih =>
    intro k c out st ht hd hc hst hsl h0 h1 hout hk
    obtain ⟨k, rfl⟩ := succ_of (show 0 < k by omega)
    have hlt : c < od.length := by omega
    have hm := hod _ (List.getElem_mem hlt)
    obtain ⟨e1, e2, e3⟩ := W.each _ hm.1 hm.2
    obtain ⟨m, f1, f2⟩ := hff st.length (by omega)
    have hsn : startAt last st.length ≤ st.length := by unfold startAt; split <;> omega
    rw [shv.l0, if_pos (by omega), if_pos (by omega), f1, Option.bind_some, f2, rd_get od c hlt]
    have hpe := posS_from st wd (rd (rd_L1 ps od[c]) 0) (startAt last st.length) st.length hsn _ (Nat.le_refl _)
    obtain ⟨K, rfl⟩ : ∃ K, k = K + (st.length - startAt last st.length) + 1 := ⟨k - (st.length - startAt last st.length) - 1, by omega⟩
    refine shv_l1 ff wd ps W od out st hst (by omega) ht (by omega) (c : Int) od[c] hm.1 hm.2 hout (startAt last st.length) K _ (st.length - startAt last st.length) (startAt last st.length) hsn rfl (Nat.le_refl _) (fun k' hk' => ?_)
    rw [← hpe]
    have hp := posS_le st wd (rd (rd_L1 ps od[c]) 0) (startAt last st.length) st.length 0
    have hh := posS_hit st wd (rd (rd_L1 ps od[c]) 0) (startAt last st.length) st.length 0
    rw [Nat.zero_add] at hh
    have hH := stH_le st ht (rd (rd_L1 ps od[c]) 1) (posS st wd (rd (rd_L1 ps od[c]) 0) (startAt last st.length) st.length 0) (by omega) (by omega)
    have hL := stS_len st ht (rd (rd_L1 ps od[c]) 0) (posS st wd (rd (rd_L1 ps od[c]) 0) (startAt last st.length) st.length 0)
    rw [w1 (by omega), List.drop_eq_getElem_cons hlt, layF]
    exact ih k' (c + 1) _ _ _ (by omega) (by omega) (stS_ok hst e2 W.wd_ok.2 hh) (by omega) (by omega) (by omega) (by rw [stO_len]; exact hout) (by omega)
theorem rd_snd (st : List (Int × Int)) (k : Nat) (h : k < st.length) : rd (st.map Prod.snd) (k : Int) = (rdP st (k : Int)).2 := by
  rw [rd_get _ _ (by rw [List.length_map]; exact h)]
  simp [rdP, List.getD_eq_getElem?_getD, h]
theorem rd_fst (st : List (Int × Int)) (k : Nat) (h : k < st.length) : rd (st.map Prod.fst) (k : Int) = (rdP st (k : Int)).1 := by
  rw [rd_get _ _ (by rw [List.length_map]; exact h)]
  simp [rdP, List.getD_eq_getElem?_getD, h]
theorem rd_snoc_len (l : List Int) (n : Nat) (x : Int) (h : l.length = n) : rd (l ++ [x]) (n : Int) = x := by
  rw [rd_get _ _ (by simp [h])]
  simp [← h]
theorem lay_l1 (last : Bool) (wd : Int) (ps : List (List Int)) (W : Strip wd ps) (od : List Int) (N : Int) (out : List S40) (st : List (Int × Int)) (hst : StOk st) (hsl : st.length ≤ 100) (ht : Int) (hht : 0 ≤ ht ∧ ht ≤ 100000) (i p : Int) (p0 : 0 ≤ p) (p1 : p < (ps.length : Int)) (hout : out.length = ps.length) (K : Nat) (Q : List S40 × Int) (r : Nat)
    (hQ : ∀ k', K ≤ k' → spec_l15Lay.l0 k' wd ps last (stO out st ht p r) ((stS st ht (rd (rd_L1 ps p) 0) r).map Prod.snd) ((stS st ht (rd (rd_L1 ps p) 0) r).map Prod.fst) (stH st ht (rd (rd_L1 ps p) 1) r) od N (wrap64 (i + 1)) = some Q) (d : Nat) : ∀ (k : Nat) (a : Int), k ≤ st.length → st.length - k = d → (a = -1 ∧ r = posS st wd (rd (rd_L1 ps p) 0) (startAt last st.length) d k ∨ a = (r : Int) ∧ r < st.length) →
    spec_l15Lay.l1 (K + d + 1) wd ps last out (st.map Prod.snd) (st.map Prod.fst) ht p (rd (rd_L1 ps p) 0) a od N i (st.length : Int) (k : Int) = some Q := by
  obtain ⟨e1, e2, e3⟩ := W.each p p0 p1
  have hwd := W.wd_ok
  have hl1 : (st.map Prod.snd).length = st.length := by simp
  have hl2 : (st.map Prod.fst).length = st.length := by simp
  induction d with
  | zero =>
    intro k a hk hd ha
    have ek : k = st.length := by omega
    subst ek
    have h2 := hQ K (Nat.le_refl _)
    rw [Nat.add_zero, spec_l15Lay.l1, if_neg (by omega)]
    rcases ha with ⟨rfl, hr⟩ | ⟨rfl, hr⟩
    · simp only [posS] at hr
      subst hr
      simp only [stO, stS, stH, Nat.lt_irrefl, if_false] at h2
      rw [if_pos (by omega), if_pos (by omega), Option.bind_some, if_pos (by omega), Option.bind_some, if_pos p0, if_pos p1, if_pos (by omega), hl1, if_pos (by omega), if_pos (by rw [List.length_append, hl1]; simp; omega), if_pos (by rw [List.length_append, hl2]; simp; omega), if_pos (by omega), rd_snoc_len _ _ _ hl1, rd_snoc_len _ _ _ hl2, Int.toNat_natCast, w64 (x := 0 + rd (rd_L1 ps p) 0) (by omega) (by omega), w64 (x := ht + rd (rd_L1 ps p) 1) (by omega) (by omega)]
      have hset : ((st.map Prod.snd) ++ [0]).set st.length (0 + rd (rd_L1 ps p) 0) = (st ++ [(ht, 0 + rd (rd_L1 ps p) 0)]).map Prod.snd := by
        rw [List.set_append_right _ _ (by omega), hl1, Nat.sub_self]
        simp
      have hfl : (st.map Prod.fst) ++ [ht] = (st ++ [(ht, 0 + rd (rd_L1 ps p) 0)]).map Prod.fst := by simp
      rw [hset, hfl]
      exact h2
    · have hb := hst _ (rdP_mem hr)
      simp only [stO, stS, stH, if_pos hr] at h2
      rw [if_neg (by omega), if_pos (by omega), if_pos (by omega), if_pos (by omega), if_pos p0, if_pos (by omega), rd_snd st r hr, rd_fst st r hr, Int.toNat_natCast]
      by_cases hf : (rdP st (r : Int)).2 + rd (rd_L1 ps p) 0 ≤ 1000
      · rw [w64 (by omega) (by omega)]
        have hset : (st.map Prod.snd).set r ((rdP st (r : Int)).2 + rd (rd_L1 ps p) 0) = (st.set r ((rdP st (r : Int)).1, (rdP st (r : Int)).2 + rd (rd_L1 ps p) 0)).map Prod.snd := by rw [List.map_set]
        have hfl : st.map Prod.fst = (st.set r ((rdP st (r : Int)).1, (rdP st (r : Int)).2 + rd (rd_L1 ps p) 0)).map Prod.fst := by
          rw [List.map_set]
          have e : (rdP st (r : Int)).1 = (st.map Prod.fst)[r]'(by omega) := by simp [rdP, List.getD_eq_getElem?_getD, hr]
          rw [e, List.set_getElem_self]
        rw [hset]
        conv => lhs; arg 7; rw [hfl]
        exact h2
      · omega
  | succ d ih =>
    intro k a hk hd ha
    have hlt : k < st.length := by omega
    have hb := hst _ (rdP_mem hlt)
    rw [show K + (d + 1) + 1 = (K + d + 1) + 1 by omega, spec_l15Lay.l1, if_pos (by omega), if_pos (by omega), if_pos (by omega), rd_snd st k hlt, w64 (x := (rdP st (k : Int)).2 + rd (rd_L1 ps p) 0) (by omega) (by omega), hl1, w64 (x := (st.length : Int) - 1) (by omega) (by omega), w1 (by omega)]
    rcases ha with ⟨rfl, hr⟩ | ⟨rfl, hr⟩
    · rw [if_pos (by omega)]
      rw [posS] at hr
      by_cases c : fitsAt st wd (rd (rd_L1 ps p) 0) k
      · have c' := c
        unfold fitsAt at c'
        rw [if_pos c']
        cases last with
        | true =>
          rw [if_pos rfl]
          by_cases e : (k : Int) = (st.length : Int) - 1
          · rw [if_pos ⟨by simp [startAt]; omega, c⟩] at hr
            rw [if_pos e]
            exact ih (k + 1) (k : Int) (by omega) (by omega) (.inr ⟨by rw [hr], by omega⟩)
          · rw [if_neg (fun h => by have h1 := h.1; simp [startAt] at h1; omega)] at hr
            rw [if_neg e]
            exact ih (k + 1) (-1) (by omega) (by omega) (.inl ⟨rfl, hr⟩)
        | false =>
          rw [if_pos ⟨by simp [startAt], c⟩] at hr
          rw [if_neg (by simp)]
          exact ih (k + 1) (k : Int) (by omega) (by omega) (.inr ⟨by rw [hr], by omega⟩)
      · rw [if_neg (fun h => c h.2)] at hr
        unfold fitsAt at c
        rw [if_neg c]
        exact ih (k + 1) (-1) (by omega) (by omega) (.inl ⟨rfl, hr⟩)
    · rw [if_neg (by omega)]
      exact ih (k + 1) (r : Int) (by omega) (by omega) (.inr ⟨rfl, hr⟩)
theorem lay_l0 (last : Bool) (wd : Int) (ps : List (List Int)) (W : Strip wd ps) (od : List Int) (hod : ∀ x ∈ od, 0 ≤ x ∧ x < (ps.length : Int)) (hol : od.length ≤ 12) (d : Nat) : ∀ (k c : Nat) (out : List S40) (st : List (Int × Int)) (ht : Int), od.length - c = d → c ≤ od.length → StOk st → st.length ≤ c → 0 ≤ ht → ht ≤ 100 * (c : Int) → out.length = ps.length → 200 * d < k →
    spec_l15Lay.l0 k wd ps last out (st.map Prod.snd) (st.map Prod.fst) ht od (od.length : Int) (c : Int) = some (layF last wd ps (od.drop c) out st ht) := by
  induction d with
  | zero =>
    intro k c out st ht hd hc hst hsl h0 h1 hout hk
    obtain ⟨k, rfl⟩ := succ_of hk
    rw [spec_l15Lay.l0, if_neg (by omega), List.drop_of_length_le (by omega)]
    rfl
  | succ d ih =>
    intro k c out st ht hd hc hst hsl h0 h1 hout hk
    obtain ⟨k, rfl⟩ := succ_of (show 0 < k by omega)
    have hlt : c < od.length := by omega
    have hm := hod _ (List.getElem_mem hlt)
    obtain ⟨e1, e2, e3⟩ := W.each _ hm.1 hm.2
    rw [spec_l15Lay.l0, if_pos (by omega), if_pos (by omega), if_pos (by omega), rd_get od c hlt, if_pos hm.1, if_pos hm.2, if_pos (by omega), List.length_map]
    obtain ⟨K, rfl⟩ : ∃ K, k = K + st.length + 1 := ⟨k - st.length - 1, by omega⟩
    have hp := posS_le st wd (rd (rd_L1 ps od[c]) 0) (startAt last st.length) st.length 0
    have hh := posS_hit st wd (rd (rd_L1 ps od[c]) 0) (startAt last st.length) st.length 0
    rw [Nat.zero_add] at hh
    have hH := stH_le st ht (rd (rd_L1 ps od[c]) 1) (posS st wd (rd (rd_L1 ps od[c]) 0) (startAt last st.length) st.length 0) (by omega) (by omega)
    have hL := stS_len st ht (rd (rd_L1 ps od[c]) 0) (posS st wd (rd (rd_L1 ps od[c]) 0) (startAt last st.length) st.length 0)
    have h2 := lay_l1 last wd ps W od (od.length : Int) out st hst (by omega) ht (by omega) (c : Int) od[c] hm.1 hm.2 hout K (layF last wd ps (od.drop c) out st ht) (posS st wd (rd (rd_L1 ps od[c]) 0) (startAt last st.length) st.length 0) (fun k' hk' => by
      rw [w1 (by omega), List.drop_eq_getElem_cons hlt, layF]
      exact ih k' (c + 1) _ _ _ (by omega) (by omega) (stS_ok hst e2 W.wd_ok.2 hh) (by omega) (by omega) (by omega) (by rw [stO_len]; exact hout) (by omega)) st.length 0 (-1) (by omega) (by omega) (.inl ⟨rfl, rfl⟩)
    exact h2
theorem orderGo_in (l : List (List Int)) : ∀ (d i : Nat) (S : List Int) (y : Int), y ∈ orderGo l d i S → y ∈ S ∨ ((i : Int) ≤ y ∧ y < (i + d : Nat))
  | 0, _, _, _, h => .inl h
  | d + 1, i, S, y, h => by
    rcases orderGo_in l d (i + 1) _ y h with h | h
    · rcases insAt_mem h with h | h
      · subst h
        exact .inr (by omega)
      · exact .inl h
    · exact .inr (by omega)
theorem strip_of {wd : Int} {ps : List (List Int)} (h : impl_PiecesFit.f wd ps = some true) : Strip wd ps ∧ Pieces ps ∧ impl_PiecesFit.f 100 ps = some true := by
  obtain ⟨h1, h2, h3⟩ := fit_two h
  have he : ∀ i : Int, 0 ≤ i → i < (ps.length : Int) → (rd_L1 ps i).length = 2 ∧ (1 ≤ rd (rd_L1 ps i) 0 ∧ rd (rd_L1 ps i) 0 ≤ wd) ∧ (1 ≤ rd (rd_L1 ps i) 1 ∧ rd (rd_L1 ps i) 1 ≤ 100) := fun i h4 h5 => by
    obtain ⟨m, rfl⟩ := Int.eq_ofNat_of_zero_le h4
    have hm : m < ps.length := by omega
    rw [rdL_get ps m hm]
    exact h3 _ (List.getElem_mem hm)
  refine ⟨⟨h1, h2, he⟩, ⟨h2, fun i h4 h5 => by have := he i h4 h5; unfold ht; omega⟩, ?_⟩
  unfold impl_PiecesFit.f
  have g1 : ps.all pieceOk = true := List.all_eq_true.mpr (fun p hp => by
    have := h3 p hp
    simp only [pieceOk, decide_eq_true_eq]
    omega)
  have g2 : ps.all (fitsIn 100) = true := List.all_eq_true.mpr (fun p hp => by
    have := h3 p hp
    simp only [fitsIn, decide_eq_true_eq]
    omega)
  simp [h2, g1, g2]
theorem lay_eq (ff : Int → Option Int) (last : Bool) (hff : ∀ n : Nat, n ≤ 100 → ∃ m, ff (n : Int) = some m ∧ mx 0 m = ((startAt last n : Nat) : Int)) (wd : Int) (ps : List (List Int)) (h : impl_PiecesFit.f wd ps = some true) (k : Nat) (hk : 3000 < k) : ∃ r : List S40 × Int, spec_l15Lay.f k wd ps last = some r ∧ shv.f ff k wd ps = some r ∧ r.1.length ≤ 12 := by
  obtain ⟨W, P, hf⟩ := strip_of h
  obtain ⟨o1, o2⟩ := order_eq ps P k (by omega)
  have hl := W.len
  have hol : (orderGo ps ps.length 0 []).length = ps.length := by rw [orderGo_len]; simp
  have hod : ∀ x ∈ orderGo ps ps.length 0 [], 0 ≤ x ∧ x < (ps.length : Int) := fun x hx => by
    rcases orderGo_in ps ps.length 0 [] x hx with h | h
    · simp at h
    · omega
  have hbh : impl_ByHeight.f k ps = some (orderGo ps ps.length 0 []) := by
    unfold impl_ByHeight.f
    rw [hf, Option.bind_some, if_pos rfl, o2]
  refine ⟨layF last wd ps (orderGo ps ps.length 0 []) (List.replicate ps.length z40) [] 0, ?_, ?_, by rw [layF_len]; simpa using hl⟩
  · unfold spec_l15Lay.f
    rw [if_pos (by omega), Int.toNat_natCast, if_pos (by omega), o1, Option.bind_some]
    have := lay_l0 last wd ps W _ hod (by omega) _ k 0 (List.replicate ps.length z40) [] 0 rfl (by omega) (fun x hx => by simp at hx) (by simp) (by omega) (by omega) (by simp) (by omega)
    rw [List.drop_zero] at this
    exact this
  · unfold shv.f
    rw [h, Option.bind_some, if_pos rfl, if_pos (by omega), Option.bind_some, hbh, Option.bind_some]
    have := shv_l0 ff last hff wd ps W _ hod (by omega) _ k 0 (List.replicate ps.length z40) [] 0 rfl (by omega) (fun x hx => by simp at hx) (by simp) (by omega) (by omega) (by simp) (by omega)
    rw [List.drop_zero] at this
    exact this

theorem firstShelf_eq (wd : Int) (ps : List (List Int)) (k : Nat) (hk : 3000 < k) : ∃ r : List S40 × Int, spec_FirstShelf.f k wd ps = some r ∧ impl_FirstShelf.f k wd ps = some r ∧ r.1.length ≤ 12 := by
  unfold spec_FirstShelf.f impl_FirstShelf.f
  rw [fit_f wd ps k (by omega)]
  obtain ⟨b, hb⟩ : ∃ b, impl_PiecesFit.f wd ps = some b := ⟨_, rfl⟩
  cases b with
  | false =>
    refine ⟨([], -1), ?_, ?_, by simp⟩
    · rw [hb]
      rfl
    · unfold shv.f
      rw [hb]
      rfl
  | true =>
    obtain ⟨r, h1, h2, h3⟩ := lay_eq first.ff false (fun n hn => ⟨0, rfl, by simp [startAt, mx]⟩) wd ps hb k hk
    refine ⟨r, ?_, h2, h3⟩
    rw [hb, Option.bind_some, if_pos rfl, h1]
    rfl
theorem FnExactFirstShelf : laws_FnExactFirstShelf.Pure := by
  intro a l _ hm _ hw
  refine ⟨2097160, ?_⟩
  obtain ⟨s, hs, hsz⟩ := szSS l hm (fun x hx => (hw x hx).1) 2097160 (by omega)
  refine ⟨s, hs, ?_⟩
  by_cases h : s < 0
  · exact .inl h
  · right
    obtain ⟨hl, hx⟩ := hsz (by omega)
    obtain ⟨r, h1, h2, hr⟩ := firstShelf_eq a l 2097160 (by omega)
    obtain ⟨m0, hm0, hm1⟩ := markSS l hl hx 2097160 (by omega)
    exact ⟨r.1, r.2, m0, 1 + 2 * (r.1.length : Int), markedP 1 r.1.length, toIntSS l hl hx _ (by omega), h1, h2, eqPointS_self r.1 (by omega) 2097160 (by omega), eqIntSS_self l hl hx _ (by omega), hm0, hm1, markP_f r.1 (by omega) 2097160 (by omega), heldP_f r.1.length (by omega) 2097160 (by omega), by omega, by omega⟩

end Go.Proofs.Ytkndopemfleedaa.Pure
