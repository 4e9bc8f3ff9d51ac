/- ByHeight: both texts insert one index after another, from the end on. -/
import Derived.Test.YtmokeeakgacadaaXFnExactByHeightx5
namespace Go.Proofs.Ytmokeeakgacadaa.Pure
open Go.RowKit Go.Proofs.Ytmokeeakgacadaa.XFnExactByHeight Go.Proofs.YtmokeeakgacadaaW.PrintWords Go.Proofs.YtmokeeakgacadaaW.PrintLast
set_option linter.unusedVariables false
set_option linter.unusedSimpArgs false
theorem wf64 {x : Int} (h : (Lit.int .i64 x).wf = true) : -9223372036854775808 ≤ x ∧ x ≤ 9223372036854775807 := by
  simp only [Lit.wf, IntKind.min, IntKind.max, IntKind.signed, IntKind.bits, Bool.and_eq_true, decide_eq_true_eq, if_true] at h
  omega
theorem w64 {x : Int} (h0 : -9223372036854775808 ≤ x) (h1 : x ≤ 9223372036854775807) : wrap64 x = x := by
  unfold wrap64
  omega
theorem succ_of {d k : Nat} (h : d < k) : ∃ m, k = m + 1 := ⟨k - 1, by omega⟩
theorem rd_nat (l : List Int) (i : Nat) : rd l (i : Int) = l.getD i 0 := by simp [rd]
theorem rd_get (l : List Int) (i : Nat) (h : i < l.length) : rd l (i : Int) = l[i] := by simp [rd, List.getD_eq_getElem?_getD, h]
theorem w1 {i : Nat} (h : i ≤ 140737488355328) : wrap64 ((i : Int) + 1) = ((i + 1 : Nat) : Int) := by
  unfold wrap64
  omega
theorem lt_t {i n : Nat} (h : i < n) : ((i : Int) < (n : Int)) = True := eq_true (by omega)
theorem lt_f {i n : Nat} (h : n ≤ i) : ((i : Int) < (n : Int)) = False := eq_false (by omega)
theorem nn_t (i : Nat) : (0 ≤ (i : Int)) = True := eq_true (by omega)
theorem w64n (n : Nat) (h : n ≤ 9223372036854775807) : wrap64 (n : Int) = (n : Int) := w64 (by omega) (by omega)
theorem w64sub (a b c : Nat) (ha : a ≤ 9223372036854775807) (h : a = b + c) : wrap64 ((a : Int) - (b : Int)) = (c : Int) := by
  rw [w64 (by omega) (by omega)]
  omega

theorem toIntS_l (l : List Int) (hl : l.length ≤ 35184372088832) (d : Nat) : ∀ (k : Nat) (ys : List Int) (i : Nat), l.length - i = d → i ≤ l.length → ys.length = l.length → ys.take i = l.take i → d < k → laws_toIntS.l0 k l ys (i : Int) = some l := by
  induction d with
  | zero =>
    intro k ys i hd hi hy ht hk
    obtain ⟨k, rfl⟩ := succ_of hk
    simp only [laws_toIntS.l0]
    rw [if_neg (by omega)]
    have : i = l.length := by omega
    subst this
    rw [List.take_length, ← hy, List.take_length] at ht
    rw [ht]
  | succ d ih =>
    intro k ys i hd hi hy ht hk
    obtain ⟨k, rfl⟩ := succ_of hk
    simp only [laws_toIntS.l0]
    rw [if_pos (by omega), if_pos (by omega), if_pos (by omega), w1 (by omega), rd_get l i (by omega)]
    refine ih k _ (i + 1) (by omega) (by omega) (by simp [hy]) ?_ (by omega)
    rw [Int.toNat_natCast, List.take_add_one, List.take_add_one, List.take_set_of_le (Nat.le_refl _), ht]
    simp [hy, show i < l.length by omega]
theorem toIntS (l : List Int) (hl : l.length ≤ 35184372088832) (k : Nat) (hk : l.length < k) : laws_toIntS.f k l = some l := by
  unfold laws_toIntS.f
  rw [if_pos (by omega), if_pos (by omega)]
  exact toIntS_l l hl l.length k _ 0 (by omega) (by omega) (by simp) rfl hk
theorem eqIntS_l (l m : List Int) (hl : l.length ≤ 35184372088832) (he : l.length = m.length) (d : Nat) : ∀ (k : Nat) (i : Nat), l.length - i = d → i ≤ l.length → d < k → laws_eqIntS.l0 k l m (i : Int) = some (decide (l.drop i = m.drop i)) := by
  induction d with
  | zero =>
    intro k i hd hi hk
    obtain ⟨k, rfl⟩ := succ_of hk
    simp only [laws_eqIntS.l0]
    rw [if_neg (by omega), List.drop_of_length_le (by omega), List.drop_of_length_le (by omega)]
    simp
  | succ d ih =>
    intro k i hd hi hk
    obtain ⟨k, rfl⟩ := succ_of hk
    simp only [laws_eqIntS.l0]
    rw [if_pos (by omega), if_pos (by omega), if_pos (by omega), w1 (by omega), rd_get l i (by omega), rd_get m i (by omega), ih k (i + 1) (by omega) (by omega) (by omega)]
    have h1 := List.drop_eq_getElem_cons (show i < l.length by omega)
    have h2 := List.drop_eq_getElem_cons (show i < m.length by omega)
    by_cases e : l[i]'(by omega) = m[i]'(by omega)
    · rw [if_pos e, h1, h2]
      simp only [List.cons.injEq, e, true_and]
    · rw [if_neg e, h1, h2]
      simp only [List.cons.injEq, e, false_and, decide_false]
theorem eqIntS (l m : List Int) (hl : l.length ≤ 35184372088832) (k : Nat) (hk : l.length < k) : laws_eqIntS.f k l m = some (decide (l = m)) := by
  unfold laws_eqIntS.f
  by_cases e : l.length = m.length
  · rw [if_pos (by omega)]
    have := eqIntS_l l m hl e l.length k 0 (by omega) (by omega) hk
    simpa using this
  · rw [if_neg (by omega)]
    have : l ≠ m := fun h => e (by rw [h])
    simp [this]

theorem within_f (a b c : Int) : impl_within.f a b c = some (decide (b ≤ a ∧ a ≤ c)) := by
  unfold impl_within.f
  by_cases h : a ≥ b
  · rw [if_pos h]; simp [show b ≤ a from h]
  · rw [if_neg h]; simp [show ¬ b ≤ a from h]
theorem l01In_f (a b c : Int) : spec_l01In.f a b c = some (decide (b ≤ a ∧ a ≤ c)) := by
  unfold spec_l01In.f
  by_cases h : a ≥ b
  · rw [if_pos h]; simp [show b ≤ a from h]
  · rw [if_neg h]; simp [show ¬ b ≤ a from h]

theorem rdL_get (l : List (List Int)) (i : Nat) (h : i < l.length) : rd_L1 l (i : Int) = l[i] := by simp [rd_L1, List.getD_eq_getElem?_getD, h]
theorem maxLen_le {n : Nat} (h : n ≤ maxLen) : n ≤ 9223372036854775807 := by unfold maxLen at h; exact h
theorem szS_f (x : List Int) (hx : x.length ≤ maxLen) (left : Int) (h0 : 0 ≤ left) (h1 : left ≤ 1048576) : laws_szIntS.f x left = some (if (x.length : Int) ≤ left then left - (x.length : Int) else -1) := by
  have := maxLen_le hx
  unfold laws_szIntS.f
  rw [w64 (by omega) (by omega)]
  by_cases h : (x.length : Int) ≤ left
  · rw [if_neg (by omega), if_pos h]
  · rw [if_pos (by omega), if_neg h]
theorem szSS_l (l : List (List Int)) (hl : l.length ≤ 1048576) (hx : ∀ x ∈ l, x.length ≤ maxLen) (d : Nat) : ∀ (k i : Nat) (left : Int), l.length - i = d → i ≤ l.length → d < k → 0 ≤ left → left ≤ 1048576 → ∃ r, laws_szIntSS.l0 k l left (i : Int) = some r ∧ (0 ≤ r → ∀ (j : Nat) (hj : j < l.length), i ≤ j → (l[j]).length ≤ 1048576) := by
  induction d with
  | zero =>
    intro k i left hd hi hk h0 h1
    obtain ⟨k, rfl⟩ := succ_of hk
    refine ⟨left, ?_, fun _ j hj hij => by omega⟩
    simp only [laws_szIntSS.l0, lt_f (show l.length ≤ i by omega), if_false]
  | succ d ih =>
    intro k i left hd hi hk h0 h1
    obtain ⟨k, rfl⟩ := succ_of hk
    have hlt : i < l.length := by omega
    simp only [laws_szIntSS.l0, lt_t hlt, nn_t, if_true, rdL_get l i hlt, szS_f _ (hx _ (List.getElem_mem hlt)) left h0 h1, Option.bind_some, w1 (show i ≤ 140737488355328 by omega)]
    by_cases h : ((l[i]).length : Int) ≤ left
    · rw [if_pos h, if_neg (by omega)]
      obtain ⟨r, h2, h3⟩ := ih k (i + 1) (left - ((l[i]).length : Int)) (by omega) (by omega) (by omega) (by omega) (by omega)
      refine ⟨r, h2, fun hr j hj hij => ?_⟩
      by_cases e : j = i
      · subst e; omega
      · exact h3 hr j hj (by omega)
    · rw [if_neg h]
      exact ⟨-1, by simp, fun h => by omega⟩
theorem szSS (l : List (List Int)) (hm : l.length ≤ maxLen) (hx : ∀ x ∈ l, x.length ≤ maxLen) (k : Nat) (hk : 1048577 < k) : ∃ r, laws_szIntSS.f k l 1048576 = some r ∧ (0 ≤ r → l.length ≤ 1048576 ∧ ∀ x ∈ l, x.length ≤ 1048576) := by
  have := maxLen_le hm
  unfold laws_szIntSS.f
  rw [w64 (by omega) (by omega)]
  by_cases h : (l.length : Int) ≤ 1048576
  · rw [if_neg (by omega)]
    obtain ⟨r, h1, h2⟩ := szSS_l l (by omega) hx l.length k 0 (1048576 - (l.length : Int)) (by omega) (by omega) (by omega) (by omega) (by omega)
    refine ⟨r, h1, fun hr => ⟨by omega, fun x hx => ?_⟩⟩
    obtain ⟨j, hj, rfl⟩ := List.getElem_of_mem hx
    exact h2 hr j hj (by omega)
  · rw [if_pos (by omega)]
    exact ⟨-1, rfl, fun h => by omega⟩
theorem toIntSS_l (l : List (List Int)) (hl : l.length ≤ 1048576) (hx : ∀ x ∈ l, x.length ≤ 1048576) (d : Nat) : ∀ (k : Nat) (ys : List (List Int)) (i : Nat), l.length - i = d → i ≤ l.length → ys.length = l.length → ys.take i = l.take i → d + 1048577 < k → laws_toIntSS.l0 k l ys (i : Int) = some l := by
  induction d with
  | zero =>
    intro k ys i hd hi hy ht hk
    obtain ⟨k, rfl⟩ := succ_of (show 0 < k by omega)
    simp only [laws_toIntSS.l0, lt_f (show l.length ≤ i by omega), if_false]
    have : i = l.length := by omega
    subst this
    rw [List.take_length, ← hy, List.take_length] at ht
    rw [ht]
  | succ d ih =>
    intro k ys i hd hi hy ht hk
    obtain ⟨k, rfl⟩ := succ_of (show 0 < k by omega)
    have hlt : i < l.length := by omega
    have hx1 := hx _ (List.getElem_mem hlt)
    simp only [laws_toIntSS.l0, lt_t hlt, nn_t, if_true, rdL_get l i hlt, toIntS _ (show (l[i]).length ≤ 35184372088832 by omega) k (by omega), Option.bind_some, lt_t (show i < ys.length by omega), w1 (show i ≤ 140737488355328 by omega)]
    refine ih k _ (i + 1) (by omega) (by omega) (by simp [hy]) ?_ (by omega)
    rw [Int.toNat_natCast, List.take_add_one, List.take_add_one, List.take_set_of_le (Nat.le_refl _), ht]
    simp [hy, hlt]
theorem toIntSS (l : List (List Int)) (hl : l.length ≤ 1048576) (hx : ∀ x ∈ l, x.length ≤ 1048576) (k : Nat) (hk : l.length + 1048577 < k) : laws_toIntSS.f k l = some l := by
  unfold laws_toIntSS.f
  rw [if_pos (by omega), if_pos (by omega)]
  exact toIntSS_l l hl hx l.length k _ 0 (by omega) (by omega) (by simp) rfl hk
theorem eqIntSS_self_l (l : List (List Int)) (hl : l.length ≤ 1048576) (hx : ∀ x ∈ l, x.length ≤ 1048576) (d : Nat) : ∀ (k i : Nat), l.length - i = d → i ≤ l.length → d + 1048577 < k → laws_eqIntSS.l0 k l l (i : Int) = some true := by
  induction d with
  | zero =>
    intro k i hd hi hk
    obtain ⟨k, rfl⟩ := succ_of (show 0 < k by omega)
    simp only [laws_eqIntSS.l0, lt_f (show l.length ≤ i by omega), if_false]
  | succ d ih =>
    intro k i hd hi hk
    obtain ⟨k, rfl⟩ := succ_of (show 0 < k by omega)
    have hlt : i < l.length := by omega
    have hx1 := hx _ (List.getElem_mem hlt)
    simp only [laws_eqIntSS.l0, lt_t hlt, nn_t, if_true, rdL_get l i hlt, eqIntS _ _ (show (l[i]).length ≤ 35184372088832 by omega) k (show (l[i]).length < k by omega), Option.bind_some, w1 (show i ≤ 140737488355328 by omega), decide_true]
    exact ih k (i + 1) (by omega) (by omega) (by omega)
theorem eqIntSS_self (l : List (List Int)) (hl : l.length ≤ 1048576) (hx : ∀ x ∈ l, x.length ≤ 1048576) (k : Nat) (hk : l.length + 1048577 < k) : laws_eqIntSS.f k l l = some true := by
  unfold laws_eqIntSS.f
  rw [if_pos rfl]
  exact eqIntSS_self_l l hl hx l.length k 0 (by omega) (by omega) hk

def fitOne (w : Int) (p : List Int) : Bool := decide (p.length = 2 ∧ (1 ≤ rd p 0 ∧ rd p 0 ≤ w) ∧ (1 ≤ rd p 1 ∧ rd p 1 ≤ 100))
theorem fit_l (w : Int) (l : List (List Int)) (hl : l.length ≤ 12) (d : Nat) : ∀ (k i : Nat), l.length - i = d → i ≤ l.length → d < k → spec_PiecesFit.l0 k w l (l.length : Int) (i : Int) = some ((l.drop i).all (fitOne w)) := by
  induction d with
  | zero =>
    intro k i hd hi hk
    obtain ⟨k, rfl⟩ := succ_of hk
    simp only [spec_PiecesFit.l0, lt_f (show l.length ≤ i by omega), if_false, List.drop_of_length_le (show l.length ≤ i by omega), List.all_nil]
  | succ d ih =>
    intro k i hd hi hk
    obtain ⟨k, rfl⟩ := succ_of hk
    have hlt : i < l.length := by omega
    have hih := ih k (i + 1) (by omega) (by omega) (by omega)
    rw [List.drop_eq_getElem_cons hlt, List.all_cons]
    simp only [spec_PiecesFit.l0, lt_t hlt, nn_t, if_true, rdL_get l i hlt, l01In_f, Option.bind_some, w1 (show i ≤ 140737488355328 by omega), hih]
    generalize (l.drop (i + 1)).all (fitOne w) = q
    generalize l[i] = p
    unfold fitOne
    generalize rd p 0 = a
    generalize rd p 1 = b
    by_cases h3 : p.length = 2
    · simp only [show ((p.length : Int) = 2) = True from eq_true (by omega), show (0 < (p.length : Int)) = True from eq_true (by omega), show (1 < (p.length : Int)) = True from eq_true (by omega), h3, if_true, true_and]
      by_cases g0 : 1 ≤ a ∧ a ≤ w
      · by_cases g1 : 1 ≤ b ∧ b ≤ 100
        · simp [g0, g1]
        · simp [g0, g1]
      · simp [g0]
    · have : ¬ ((p.length : Int) = 2) := by omega
      simp [this, h3]
theorem fit_split (w : Int) (hw : w ≤ 100) (l : List (List Int)) : l.all (fitOne w) = (l.all pieceOk && l.all (fitsIn w)) := by
  induction l with
  | nil => rfl
  | cons p r ih =>
    rw [List.all_cons, List.all_cons, List.all_cons, ih]
    have : fitOne w p = (pieceOk p && fitsIn w p) := by
      rw [Bool.eq_iff_iff]
      simp only [fitOne, pieceOk, fitsIn, Bool.and_eq_true, decide_eq_true_eq]
      omega
    rw [this]
    cases pieceOk p <;> cases fitsIn w p <;> simp
theorem fit_f (w : Int) (l : List (List Int)) (k : Nat) (hk : 14 < k) : spec_PiecesFit.f k w l = impl_PiecesFit.f w l := by
  unfold spec_PiecesFit.f impl_PiecesFit.f
  obtain ⟨k, rfl⟩ := succ_of hk
  simp only [l01In_f, Option.bind_some, spec_PiecesFit.j0]
  by_cases h1 : 1 ≤ w ∧ w ≤ 100
  · by_cases h2 : l.length ≤ 12
    · have := fit_l w l h2 l.length k 0 (by omega) (by omega) (by omega)
      simp only [Int.ofNat_zero, List.drop_zero] at this
      rw [this, fit_split w h1.2 l]
      generalize l.all pieceOk = q
      generalize l.all (fitsIn w) = q2
      simp [h1, h2, show ¬ (l.length : Int) > 12 by omega]
    · simp [h1, h2, show (l.length : Int) > 12 by omega]
  · simp [h1]

theorem more_of {α : Type} {f : Nat → Option α} (h : ∀ k, LeO (f k) (f (k + 1))) {k : Nat} {r : α} (hr : f k = some r) (K : Nat) (hK : k ≤ K) : f K = some r := by
  obtain ⟨m, rfl⟩ := Nat.exists_eq_add_of_le hK
  clear hK
  induction m with
  | zero => exact hr
  | succ m ih => exact h (k + m) _ ih

def iota (n : Nat) : List Int := (List.range n).map fun j : Nat => (j : Int)
theorem iota_len (n : Nat) : (iota n).length = n := by simp [iota]
theorem iota_snoc (n : Nat) : iota n ++ [(n : Int)] = iota (n + 1) := by simp [iota, List.range_succ]
theorem iota_drop (n i : Nat) (h : i < n) : (iota n).drop i = (i : Int) :: (iota n).drop (i + 1) := by
  rw [List.drop_eq_getElem_cons (by rw [iota_len]; exact h)]
  simp [iota]
def ht (l : List (List Int)) (i : Int) : Int := rd (rd_L1 l i) 1
def posGo (l : List (List Int)) (S : List Int) (x : Int) : Nat → Nat
  | 0 => 0
  | k + 1 => if ht l (rd S (k : Int)) < ht l x then posGo l S x k else k + 1
theorem posGo_le (l : List (List Int)) (S : List Int) (x : Int) : ∀ k, posGo l S x k ≤ k
  | 0 => Nat.le_refl _
  | k + 1 => by
    unfold posGo
    split
    · have := posGo_le l S x k; omega
    · exact Nat.le_refl _
def insAt (S : List Int) (x : Int) (p : Nat) : List Int := S.take p ++ x :: S.drop p
theorem insAt_len (S : List Int) (x : Int) (p : Nat) : (insAt S x p).length = S.length + 1 := by
  simp [insAt, List.length_take, List.length_drop]
  omega
theorem insAt_mem {S : List Int} {x : Int} {p : Nat} {y : Int} (h : y ∈ insAt S x p) : y = x ∨ y ∈ S := by
  unfold insAt at h
  rw [List.mem_append, List.mem_cons] at h
  rcases h with h | h | h
  · exact .inr (List.mem_of_mem_take h)
  · exact .inl h
  · exact .inr (List.mem_of_mem_drop h)
def orderGo (l : List (List Int)) : Nat → Nat → List Int → List Int
  | 0, _, S => S
  | d + 1, i, S => orderGo l d (i + 1) (insAt S (i : Int) (posGo l S (i : Int) S.length))
theorem orderGo_len (l : List (List Int)) : ∀ (d i : Nat) (S : List Int), (orderGo l d i S).length = S.length + d
  | 0, _, _ => rfl
  | d + 1, i, S => by rw [orderGo, orderGo_len l d, insAt_len]; omega
structure Pieces (l : List (List Int)) : Prop where
  len : l.length ≤ 12
  each : ∀ i : Int, 0 ≤ i → i < (l.length : Int) → (rd_L1 l i).length = 2 ∧ 1 ≤ ht l i ∧ ht l i ≤ 100
theorem order_l1 (l : List (List Int)) (W : Pieces l) (S : List Int) (hS : ∀ x ∈ S, 0 ≤ x ∧ x < (l.length : Int)) (hSl : S.length ≤ 12) (x : Int) (hx : 0 ≤ x ∧ x < (l.length : Int)) (n i : Int) (Q : List Int) : ∀ (j k : Nat), j ≤ S.length → j < k → (∀ k', k ≤ k' + j + 1 → spec_l15Order.l0 k' l (insAt S x (posGo l S x j)) l n (wrap64 (i + 1)) = some Q) → spec_l15Order.l1 k l S x (rd_L1 l x) (j : Int) l n i = some Q := by
  intro j
  induction j with
  | zero =>
    intro k hj hk hQ
    obtain ⟨k, rfl⟩ := succ_of hk
    have := hQ k (by omega)
    simp only [posGo, insAt, List.take_zero, List.nil_append, List.drop_zero] at this
    simp only [spec_l15Order.l1]
    rw [if_neg (by simp)]
    simp only [Option.bind_some, Int.ofNat_zero, Int.le_refl, if_true, Int.toNat_zero, List.take_zero, List.nil_append, List.length_nil, List.drop_zero, List.length_cons]
    rw [if_pos (by omega), if_pos (by omega), if_pos (by omega), if_pos (by omega)]
    exact this
  | succ j ih =>
    intro k hj hk hQ
    obtain ⟨k, rfl⟩ := succ_of (show 0 < k by omega)
    have hw : wrap64 (((j + 1 : Nat) : Int) - 1) = (j : Int) := by rw [w64 (by omega) (by omega)]; omega
    have hmem : rd S (j : Int) ∈ S := by rw [rd_get S j (by omega)]; exact List.getElem_mem _
    have hr := hS _ hmem
    have he := W.each _ hr.1 hr.2
    have hxe := W.each _ hx.1 hx.2
    simp only [spec_l15Order.l1, hw]
    rw [if_pos (by omega), if_pos (by omega), if_pos (by omega), if_pos hr.1, if_pos hr.2, if_pos (by omega), if_pos (by omega)]
    unfold posGo at hQ
    by_cases c : ht l (rd S (j : Int)) < ht l x
    · rw [if_pos c] at hQ
      rw [if_pos (show rd (rd_L1 l (rd S (j : Int))) 1 < rd (rd_L1 l x) 1 from c)]
      exact ih k (by omega) (by omega) (fun k' hk' => hQ k' (by omega))
    · rw [if_neg c] at hQ
      rw [if_neg (show ¬ rd (rd_L1 l (rd S (j : Int))) 1 < rd (rd_L1 l x) 1 from c)]
      have h2 := hQ k (by omega)
      have ht : (S.take (j + 1)).length = j + 1 := by rw [List.length_take]; omega
      simp only [Option.bind_some, List.nil_append, List.length_nil, Int.toNat_natCast]
      rw [if_pos (by omega), if_pos (by omega), if_pos (by omega), if_pos (by omega), if_pos (by simp; omega)]
      unfold insAt at h2
      rw [List.append_assoc]
      exact h2
theorem order_l0 (l : List (List Int)) (W : Pieces l) (d : Nat) : ∀ (k i : Nat) (S : List Int), l.length - i = d → i ≤ l.length → S.length = i → (∀ x ∈ S, 0 ≤ x ∧ x < (l.length : Int)) → 20 * d + 20 < k → spec_l15Order.l0 k l S l (l.length : Int) (i : Int) = some (orderGo l d i S) := by
  have hl := W.len
  induction d with
  | zero =>
    intro k i S hd hi hSl hS hk
    obtain ⟨k, rfl⟩ := succ_of (show 0 < k by omega)
    simp only [spec_l15Order.l0, lt_f (show l.length ≤ i by omega), if_false, orderGo]
  | succ d ih =>
    intro k i S hd hi hSl hS hk
    obtain ⟨k, rfl⟩ := succ_of (show 0 < k by omega)
    have hlt : i < l.length := by omega
    simp only [spec_l15Order.l0, lt_t hlt, nn_t, if_true, orderGo]
    refine order_l1 l W S hS (by omega) (i : Int) (by omega) _ (i : Int) _ S.length k (Nat.le_refl _) (by omega) (fun k' hk' => ?_)
    rw [w1 (show i ≤ 140737488355328 by omega)]
    exact ih k' (i + 1) _ (by omega) (by omega) (by rw [insAt_len]; omega) (fun y hy => by
      rcases insAt_mem hy with h | h
      · rw [h]; omega
      · exact hS y h) (by omega)
theorem swap_step (S R : List Int) (x : Int) (j : Nat) (hj : j < S.length) : ((S.take (j + 1) ++ x :: (S.drop (j + 1) ++ R)).set (j + 1) S[j]).set j x = S.take j ++ x :: (S.drop j ++ R) := by
  have h1 : S.take (j + 1) = S.take j ++ [S[j]] := (List.take_append_getElem hj).symm
  have hl : (S.take j).length = j := by rw [List.length_take]; omega
  rw [h1, List.drop_eq_getElem_cons hj]
  generalize S[j] = s
  generalize S.take j = T at hl
  generalize S.drop (j + 1) = D
  subst hl
  simp [List.set_append]
theorem at_pos (S R : List Int) (x : Int) (j : Nat) (hj : j ≤ S.length) : rd (S.take j ++ x :: (S.drop j ++ R)) (j : Int) = x := by
  have hl : (S.take j).length = j := by rw [List.length_take]; omega
  rw [rd_get _ _ (by rw [List.length_append, hl, List.length_cons]; omega), List.getElem_append_right (by omega)]
  simp [hl]
theorem before_pos (S R : List Int) (x : Int) (j : Nat) (hj : j + 1 ≤ S.length) : rd (S.take (j + 1) ++ x :: (S.drop (j + 1) ++ R)) (j : Int) = rd S (j : Int) := by
  have hl : (S.take (j + 1)).length = j + 1 := by rw [List.length_take]; omega
  rw [rd_get _ _ (by rw [List.length_append, hl]; omega), rd_get S j (by omega), List.getElem_append_left (by omega)]
  simp
theorem sort_l1 (l : List (List Int)) (W : Pieces l) (S R : List Int) (hS : ∀ x ∈ S, 0 ≤ x ∧ x < (l.length : Int)) (hSl : S.length + R.length ≤ 20) (x : Int) (hx : 0 ≤ x ∧ x < (l.length : Int)) (n i : Int) (Q : List Int) : ∀ (j k : Nat), j ≤ S.length → j < k → (∀ k', k ≤ k' + j + 1 → slices_insertionSortCmpFunc_int.l0 (byHeight.cf l) k' (S.take (posGo l S x j) ++ x :: (S.drop (posGo l S x j) ++ R)) 0 n (wrap64 (i + 1)) = some Q) → slices_insertionSortCmpFunc_int.l1 (byHeight.cf l) k (S.take j ++ x :: (S.drop j ++ R)) 0 n i (j : Int) = some Q := by
  intro j
  induction j with
  | zero =>
    intro k hj hk hQ
    obtain ⟨k, rfl⟩ := succ_of hk
    simp only [slices_insertionSortCmpFunc_int.l1]
    rw [if_neg (by simp)]
    exact hQ k (by omega)
  | succ j ih =>
    intro k hj hk hQ
    obtain ⟨k, rfl⟩ := succ_of (show 0 < k by omega)
    have hw : wrap64 (((j + 1 : Nat) : Int) - 1) = (j : Int) := by rw [w64 (by omega) (by omega)]; omega
    have hmem : rd S (j : Int) ∈ S := by rw [rd_get S j (by omega)]; exact List.getElem_mem _
    have hr := hS _ hmem
    have he := W.each _ hr.1 hr.2
    have hxe := W.each _ hx.1 hx.2
    have hlen : (S.take (j + 1) ++ x :: (S.drop (j + 1) ++ R)).length = S.length + 1 + R.length := by
      simp [List.length_take, List.length_drop]
      omega
    have hcf : byHeight.cf l x (rd S (j : Int)) = some (ht l (rd S (j : Int)) - ht l x) := by
      unfold byHeight.cf
      rw [if_pos ⟨hx, hr, by omega, by omega⟩]
      congr 1
      exact w64 (by unfold ht at *; omega) (by unfold ht at *; omega)
    simp only [slices_insertionSortCmpFunc_int.l1, hw, hlen, at_pos S R x (j + 1) hj, before_pos S R x j hj, hcf, Option.bind_some, Int.toNat_natCast]
    rw [if_pos (by omega), if_pos (by omega), if_pos (by omega), if_pos (by omega), if_pos (by omega)]
    unfold posGo at hQ
    by_cases c : ht l (rd S (j : Int)) < ht l x
    · rw [if_pos c] at hQ
      rw [if_pos (by omega), rd_get S j (by omega), swap_step S R x j (by omega)]
      exact ih k (by omega) (by omega) (fun k' hk' => hQ k' (by omega))
    · rw [if_neg c] at hQ
      rw [if_neg (by omega)]
      exact hQ k (by omega)
theorem sort_l0 (l : List (List Int)) (W : Pieces l) (d : Nat) : ∀ (k i : Nat) (S : List Int), l.length - i = d → i ≤ l.length → S.length = i → (∀ x ∈ S, 0 ≤ x ∧ x < (l.length : Int)) → 20 * d + 20 < k → slices_insertionSortCmpFunc_int.l0 (byHeight.cf l) k (S ++ (iota l.length).drop i) 0 (l.length : Int) (i : Int) = some (orderGo l d i S) := by
  have hl := W.len
  induction d with
  | zero =>
    intro k i S hd hi hSl hS hk
    obtain ⟨k, rfl⟩ := succ_of (show 0 < k by omega)
    simp only [slices_insertionSortCmpFunc_int.l0, lt_f (show l.length ≤ i by omega), if_false, orderGo]
    rw [List.drop_of_length_le (by rw [iota_len]; omega), List.append_nil]
  | succ d ih =>
    intro k i S hd hi hSl hS hk
    obtain ⟨k, rfl⟩ := succ_of (show 0 < k by omega)
    have hlt : i < l.length := by omega
    simp only [slices_insertionSortCmpFunc_int.l0, lt_t hlt, if_true, orderGo]
    rw [iota_drop l.length i hlt]
    have hR : ((iota l.length).drop (i + 1)).length = l.length - (i + 1) := by rw [List.length_drop, iota_len]
    have := sort_l1 l W S ((iota l.length).drop (i + 1)) hS (by omega) (i : Int) (by omega) (l.length : Int) (i : Int) (orderGo l d (i + 1) (insAt S (i : Int) (posGo l S (i : Int) S.length))) S.length k (Nat.le_refl _) (by omega) (fun k' hk' => by
      rw [w1 (show i ≤ 140737488355328 by omega)]
      have h2 := ih k' (i + 1) (insAt S (i : Int) (posGo l S (i : Int) S.length)) (by omega) (by omega) (by rw [insAt_len]; omega) (fun y hy => by
        rcases insAt_mem hy with h | h
        · rw [h]; omega
        · exact hS y h) (by omega)
      rw [insAt, List.append_assoc, List.cons_append] at h2
      exact h2)
    rw [List.take_length, List.drop_length, List.nil_append] at this
    subst hSl
    exact this
theorem iota_l (n : Nat) (hn : n ≤ 12) (d : Nat) : ∀ (k i : Nat), n - i = d → i ≤ n → d < k → impl_ByHeight.l0 k (n : Int) (iota i) (i : Int) = some (iota n) := by
  induction d with
  | zero =>
    intro k i hd hi hk
    obtain ⟨k, rfl⟩ := succ_of hk
    obtain rfl : i = n := by omega
    simp only [impl_ByHeight.l0, lt_f (Nat.le_refl i), if_false]
  | succ d ih =>
    intro k i hd hi hk
    obtain ⟨k, rfl⟩ := succ_of hk
    have hlt : i < n := by omega
    simp only [impl_ByHeight.l0, lt_t hlt, if_true, iota_len, show (i < 17592186044416) = True from eq_true (by omega), iota_snoc, w1 (show i ≤ 140737488355328 by omega)]
    exact ih k (i + 1) (by omega) (by omega) (by omega)
theorem pieces_of (l : List (List Int)) (hl : l.length ≤ 12) (h : l.all pieceOk = true) : Pieces l := ⟨hl, fun i h0 h1 => by
  obtain ⟨m, rfl⟩ := Int.eq_ofNat_of_zero_le h0
  have hm : m < l.length := by omega
  have := List.all_eq_true.mp h _ (List.getElem_mem hm)
  unfold ht
  rw [rdL_get l m hm]
  simp only [pieceOk, decide_eq_true_eq] at this
  omega⟩
theorem order_eq (l : List (List Int)) (W : Pieces l) (k : Nat) (hk : 300 < k) : spec_l15Order.f k l = some (orderGo l l.length 0 []) ∧ ((impl_ByHeight.l0 k (l.length : Int) [] 0).bind fun out => if out.length < 20 then slices_insertionSortCmpFunc_int.f (byHeight.cf l) k out 0 (out.length : Int) else none) = some (orderGo l l.length 0 []) := by
  have hl := W.len
  constructor
  · exact order_l0 l W l.length k 0 [] (by omega) (by omega) rfl (by simp) (by omega)
  · have h1 := iota_l l.length hl l.length k 0 (by omega) (by omega) (by omega)
    have e0 : iota 0 = [] := rfl
    rw [e0, Int.ofNat_zero] at h1
    rw [h1, Option.bind_some, iota_len, if_pos (by omega)]
    unfold slices_insertionSortCmpFunc_int.f
    have hw : wrap64 (0 + 1) = ((1 : Nat) : Int) := w64 (by omega) (by omega)
    rw [hw]
    by_cases hn : l.length = 0
    · obtain ⟨k, rfl⟩ := succ_of (show 0 < k by omega)
      rw [hn]
      simp [slices_insertionSortCmpFunc_int.l0, orderGo, iota]
    · have h2 := sort_l0 l W (l.length - 1) k 1 [0] (by omega) (by omega) rfl (by simp; omega) (by omega)
      have e1 : [0] ++ (iota l.length).drop 1 = iota l.length := by
        have := iota_drop l.length 0 (by omega)
        rw [List.drop_zero] at this
        rw [this]
        rfl
      rw [e1] at h2
      rw [h2]
      obtain ⟨m, hm⟩ : ∃ m, l.length = m + 1 := ⟨l.length - 1, by omega⟩
      rw [hm]
      rfl

def marked (a : Int) (n : Nat) : List Int := (List.range n).map fun j : Nat => a + (j : Int)
theorem marked_length (a : Int) (n : Nat) : (marked a n).length = n := by simp [marked]
theorem marked_get (a : Int) (n i : Nat) (h : i < n) : rd (marked a n) (i : Int) = a + (i : Int) := by
  rw [rd_get _ _ (by rw [marked_length]; exact h)]
  simp [marked]
theorem mark_l (n : Nat) (a : Int) (h0 : 0 ≤ a) (h1 : a + (n : Int) ≤ 4611686018427387904) (hn : n ≤ 140737488355328) (d : Nat) : ∀ (k i : Nat) (l : List Int), n - i = d → i ≤ n → l.length = n → l.take i = marked a i → d < k → laws_markIntS.l0 k l (a + (i : Int)) (i : Int) = some (a + (n : Int), marked a n) := by
  induction d with
  | zero =>
    intro k i l hd hi hl ht hk
    obtain ⟨k, rfl⟩ := succ_of hk
    have : i = n := by omega
    subst this
    subst hl
    simp only [laws_markIntS.l0, lt_f (Nat.le_refl l.length), if_false]
    rw [List.take_length] at ht
    rw [← ht]
  | succ d ih =>
    intro k i l hd hi hl ht hk
    obtain ⟨k, rfl⟩ := succ_of hk
    have hlt : i < l.length := by omega
    simp only [laws_markIntS.l0, lt_t hlt, nn_t, if_true, w1 (show i ≤ 140737488355328 by omega)]
    rw [w64 (by omega) (by omega), show a + (i : Int) + 1 = a + ((i + 1 : Nat) : Int) by omega]
    refine ih k (i + 1) _ (by omega) (by omega) (by simp [hl]) ?_ (by omega)
    rw [Int.toNat_natCast, List.take_add_one, List.take_set_of_le (Nat.le_refl _), ht]
    simp [hlt, marked, List.range_succ]
theorem mark_f (l : List Int) (a : Int) (h0 : 0 ≤ a) (h1 : a + (l.length : Int) ≤ 4611686018427387904) (hn : l.length ≤ 140737488355328) (k : Nat) (hk : l.length < k) : laws_markIntS.f k l a = some (a + (l.length : Int), marked a l.length) := by
  have := mark_l l.length a h0 h1 hn l.length k 0 l (by omega) (by omega) rfl (by simp [marked]) hk
  rw [Int.ofNat_zero, Int.add_zero] at this
  exact this
theorem held_l (n : Nat) (a : Int) (h0 : 0 ≤ a) (h1 : a + (n : Int) ≤ 4611686018427387904) (hn : n ≤ 140737488355328) (d : Nat) : ∀ (k i : Nat), n - i = d → i ≤ n → d < k → laws_heldIntS.l0 k (marked a n) (a + (i : Int)) (i : Int) = some (a + (n : Int)) := by
  induction d with
  | zero =>
    intro k i hd hi hk
    obtain ⟨k, rfl⟩ := succ_of hk
    have : i = n := by omega
    subst this
    simp only [laws_heldIntS.l0, marked_length, lt_f (Nat.le_refl i), if_false]
  | succ d ih =>
    intro k i hd hi hk
    obtain ⟨k, rfl⟩ := succ_of hk
    have hlt : i < n := by omega
    simp only [laws_heldIntS.l0, marked_length, lt_t hlt, nn_t, if_true, w1 (show i ≤ 140737488355328 by omega), marked_get a n i hlt]
    rw [w64 (by omega) (by omega), show a + (i : Int) + 1 = a + ((i + 1 : Nat) : Int) by omega]
    exact ih k (i + 1) (by omega) (by omega) (by omega)
theorem held_f (n : Nat) (a : Int) (h0 : 0 ≤ a) (h1 : a + (n : Int) ≤ 4611686018427387904) (hn : n ≤ 140737488355328) (k : Nat) (hk : n < k) : laws_heldIntS.f k (marked a n) a = some (a + (n : Int)) := by
  have := held_l n a h0 h1 hn n k 0 (by omega) (by omega) hk
  rw [Int.ofNat_zero, Int.add_zero] at this
  exact this

theorem mk_l (n : Nat) (a : Int) (h0 : 0 ≤ a) (h1 : a + (n : Int) ≤ 4611686018427387904) (hn : n ≤ 140737488355328) (d : Nat) : ∀ (k i : Nat), n - i = d → i ≤ n → d < k → mk.l0 k n (a + (i : Int)) (i : Int) = some (a + (n : Int)) := by
  induction d with
  | zero =>
    intro k i hd hi hk
    obtain ⟨k, rfl⟩ := succ_of hk
    have : i = n := by omega
    subst this
    simp only [mk.l0, lt_f (Nat.le_refl i), if_false]
  | succ d ih =>
    intro k i hd hi hk
    obtain ⟨k, rfl⟩ := succ_of hk
    have hlt : i < n := by omega
    simp only [mk.l0, lt_t hlt, nn_t, if_true, w1 (show i ≤ 140737488355328 by omega)]
    rw [w64 (by omega) (by omega), show a + (i : Int) + 1 = a + ((i + 1 : Nat) : Int) by omega]
    exact ih k (i + 1) (by omega) (by omega) (by omega)
theorem markSS_l (l : List (List Int)) (hl : l.length ≤ 1048576) (hx : ∀ x ∈ l, x.length ≤ 1048576) (d : Nat) : ∀ (k i : Nat) (a : Int), l.length - i = d → i ≤ l.length → d + 1048577 < k → 1 ≤ a → a ≤ 1 + 1048576 * (i : Int) → ∃ t, laws_markIntSS.l0 k l a (i : Int) = some t ∧ 0 ≤ t := by
  induction d with
  | zero =>
    intro k i a hd hi hk h0 h1
    obtain ⟨k, rfl⟩ := succ_of (show 0 < k by omega)
    exact ⟨a, by simp only [laws_markIntSS.l0, lt_f (show l.length ≤ i by omega), if_false], by omega⟩
  | succ d ih =>
    intro k i a hd hi hk h0 h1
    obtain ⟨k, rfl⟩ := succ_of (show 0 < k by omega)
    have hlt : i < l.length := by omega
    have hxi := hx _ (List.getElem_mem hlt)
    have hm := mk_l (l[i]).length a (by omega) (by omega) (by omega) (l[i]).length k 0 (by omega) (by omega) (by omega)
    rw [Int.ofNat_zero, Int.add_zero] at hm
    simp only [laws_markIntSS.l0, lt_t hlt, nn_t, if_true, rdL_get l i hlt, hm, Option.bind_some, w1 (show i ≤ 140737488355328 by omega)]
    exact ih k (i + 1) _ (by omega) (by omega) (by omega) (by omega) (by omega)
theorem markSS (l : List (List Int)) (hl : l.length ≤ 1048576) (hx : ∀ x ∈ l, x.length ≤ 1048576) (k : Nat) (hk : l.length + 1048577 < k) : ∃ t, laws_markIntSS.f k l 1 = some t ∧ 0 ≤ t := by
  have := markSS_l l hl hx l.length k 0 1 (by omega) (by omega) hk (by omega) (by omega)
  exact this

theorem byHeight_eq (l : List (List Int)) (k : Nat) (hk : 300 < k) : ∃ r, spec_ByHeight.f k l = some r ∧ impl_ByHeight.f k l = some r ∧ r.length ≤ 100 := by
  unfold spec_ByHeight.f impl_ByHeight.f
  rw [fit_f 100 l k (by omega)]
  unfold impl_PiecesFit.f
  simp only [Option.bind_some]
  by_cases h1 : l.length ≤ 12
  · by_cases h2 : l.all pieceOk = true
    · have W := pieces_of l h1 h2
      obtain ⟨e1, e2⟩ := order_eq l W k hk
      by_cases h3 : l.all (fitsIn 100) = true
      · refine ⟨orderGo l l.length 0 [], ?_, ?_, by rw [orderGo_len]; simp; omega⟩
        · rw [if_pos (by simp [h1, h2, h3]), e1]
          rfl
        · rw [if_pos (by simp [h1, h2, h3]), e2]
      · rw [Bool.not_eq_true] at h3
        exact ⟨[], by simp [h3], by simp [h3], by simp⟩
    · rw [Bool.not_eq_true] at h2
      exact ⟨[], by simp [h2], by simp [h2], by simp⟩
  · exact ⟨[], by simp [h1], by simp [h1], by simp⟩
theorem FnExactByHeight : laws_FnExactByHeight.Pure := by
  intro l hm _ hw
  refine ⟨2097160, ?_⟩
  unfold laws_FnExactByHeight.f
  obtain ⟨s, hs, hsz⟩ := szSS l hm (fun x hx => (hw x hx).1) 2097160 (by omega)
  rw [hs]
  simp only [Option.bind_some]
  by_cases h : s < 0
  · rw [if_pos h]
  · obtain ⟨hl, hx⟩ := hsz (by omega)
    obtain ⟨r, h1, h2, hr⟩ := byHeight_eq l 2097160 (by omega)
    obtain ⟨r', h1', h2', _⟩ := byHeight_eq l 2097159 (by omega)
    have e : r' = r := by
      have := more_of (f := fun k => spec_ByHeight.f k l) (fun k => spec_ByHeight.mono _ k) h1' 2097160 (by omega)
      exact Option.some.inj (this.symm.trans h1)
    subst e
    obtain ⟨t, ht, ht0⟩ := markSS l hl hx 2097160 (by omega)
    rw [if_neg h, toIntSS l hl hx _ (by omega)]
    simp only [Option.bind_some, h1, h2, eqIntS r' r' (by omega) _ (show r'.length < 2097160 by omega), decide_true, if_true, eqIntSS_self l hl hx _ (show l.length + 1048577 < 2097160 by omega), ht]
    rw [if_neg (by omega)]
    simp only [laws_FnExactByHeight.j0, Bool.not_true, Bool.false_eq_true, if_false, mark_f r' 1 (by omega) (by omega) (by omega) 2097159 (by omega), held_f r'.length 1 (by omega) (by omega) (by omega) 2097159 (by omega), Option.bind_some, if_true, toIntSS l hl hx 2097159 (by omega), h2', eqIntS r' r' (by omega) 2097159 (by omega), decide_true]
    rw [if_neg (by omega)]
    rw [if_neg (by omega)]

end Go.Proofs.Ytmokeeakgacadaa.Pure
