/- TurnedPieces: both texts turn a piece that is higher than wide, if the strip is wide enough. -/
import Derived.Test.YtcmmammefghjdaaXFnExactTurnedPiecesx5
namespace Go.Proofs.Ytcmmammefghjdaa.Pure
open Go.RowKit Go.Proofs.Ytcmmammefghjdaa.XFnExactTurnedPieces Go.Proofs.YtcmmammefghjdaaW.PrintWords Go.Proofs.YtcmmammefghjdaaW.PrintLast
set_option linter.unusedVariables false
set_option linter.unusedSimpArgs false
theorem wf64 {x : Int} (h : (Lit.int .i64 x).wf = true) : -9223372036854775808 ≤ x ∧ x ≤ 9223372036854775807 := by
  simp only [Lit.wf, IntKind.min, IntKind.max, IntKind.signed, IntKind.bits, Bool.and_eq_true, decide_eq_true_eq, if_true] at h
  omega
theorem w64 {x : Int} (h0 : -9223372036854775808 ≤ x) (h1 : x ≤ 9223372036854775807) : wrap64 x = x := by
  unfold wrap64
  omega
theorem succ_of {d k : Nat} (h : d < k) : ∃ m, k = m + 1 := ⟨k - 1, by omega⟩
theorem rd_nat (l : List Int) (i : Nat) : rd l (i : Int) = l.getD i 0 := by simp [rd]
theorem rd_get (l : List Int) (i : Nat) (h : i < l.length) : rd l (i : Int) = l[i] := by simp [rd, List.getD_eq_getElem?_getD, h]
theorem w1 {i : Nat} (h : i ≤ 140737488355328) : wrap64 ((i : Int) + 1) = ((i + 1 : Nat) : Int) := by
  unfold wrap64
  omega
theorem lt_t {i n : Nat} (h : i < n) : ((i : Int) < (n : Int)) = True := eq_true (by omega)
theorem lt_f {i n : Nat} (h : n ≤ i) : ((i : Int) < (n : Int)) = False := eq_false (by omega)
theorem nn_t (i : Nat) : (0 ≤ (i : Int)) = True := eq_true (by omega)
theorem w64n (n : Nat) (h : n ≤ 9223372036854775807) : wrap64 (n : Int) = (n : Int) := w64 (by omega) (by omega)
theorem w64sub (a b c : Nat) (ha : a ≤ 9223372036854775807) (h : a = b + c) : wrap64 ((a : Int) - (b : Int)) = (c : Int) := by
  rw [w64 (by omega) (by omega)]
  omega

theorem toIntS_l (l : List Int) (hl : l.length ≤ 35184372088832) (d : Nat) : ∀ (k : Nat) (ys : List Int) (i : Nat), l.length - i = d → i ≤ l.length → ys.length = l.length → ys.take i = l.take i → d < k → laws_toIntS.l0 k l ys (i : Int) = some l := by
  induction d with
  | zero =>
    intro k ys i hd hi hy ht hk
    obtain ⟨k, rfl⟩ := succ_of hk
    simp only [laws_toIntS.l0]
    rw [if_neg (by omega)]
    have : i = l.length := by omega
    subst this
    rw [List.take_length, ← hy, List.take_length] at ht
    rw [ht]
  | succ d ih =>
    intro k ys i hd hi hy ht hk
    obtain ⟨k, rfl⟩ := succ_of hk
    simp only [laws_toIntS.l0]
    rw [if_pos (by omega), if_pos (by omega), if_pos (by omega), w1 (by omega), rd_get l i (by omega)]
    refine ih k _ (i + 1) (by omega) (by omega) (by simp [hy]) ?_ (by omega)
    rw [Int.toNat_natCast, List.take_add_one, List.take_add_one, List.take_set_of_le (Nat.le_refl _), ht]
    simp [hy, show i < l.length by omega]
theorem toIntS (l : List Int) (hl : l.length ≤ 35184372088832) (k : Nat) (hk : l.length < k) : laws_toIntS.f k l = some l := by
  unfold laws_toIntS.f
  rw [if_pos (by omega), if_pos (by omega)]
  exact toIntS_l l hl l.length k _ 0 (by omega) (by omega) (by simp) rfl hk
theorem eqIntS_l (l m : List Int) (hl : l.length ≤ 35184372088832) (he : l.length = m.length) (d : Nat) : ∀ (k : Nat) (i : Nat), l.length - i = d → i ≤ l.length → d < k → laws_eqIntS.l0 k l m (i : Int) = some (decide (l.drop i = m.drop i)) := by
  induction d with
  | zero =>
    intro k i hd hi hk
    obtain ⟨k, rfl⟩ := succ_of hk
    simp only [laws_eqIntS.l0]
    rw [if_neg (by omega), List.drop_of_length_le (by omega), List.drop_of_length_le (by omega)]
    simp
  | succ d ih =>
    intro k i hd hi hk
    obtain ⟨k, rfl⟩ := succ_of hk
    simp only [laws_eqIntS.l0]
    rw [if_pos (by omega), if_pos (by omega), if_pos (by omega), w1 (by omega), rd_get l i (by omega), rd_get m i (by omega), ih k (i + 1) (by omega) (by omega) (by omega)]
    have h1 := List.drop_eq_getElem_cons (show i < l.length by omega)
    have h2 := List.drop_eq_getElem_cons (show i < m.length by omega)
    by_cases e : l[i]'(by omega) = m[i]'(by omega)
    · rw [if_pos e, h1, h2]
      simp only [List.cons.injEq, e, true_and]
    · rw [if_neg e, h1, h2]
      simp only [List.cons.injEq, e, false_and, decide_false]
theorem eqIntS (l m : List Int) (hl : l.length ≤ 35184372088832) (k : Nat) (hk : l.length < k) : laws_eqIntS.f k l m = some (decide (l = m)) := by
  unfold laws_eqIntS.f
  by_cases e : l.length = m.length
  · rw [if_pos (by omega)]
    have := eqIntS_l l m hl e l.length k 0 (by omega) (by omega) hk
    simpa using this
  · rw [if_neg (by omega)]
    have : l ≠ m := fun h => e (by rw [h])
    simp [this]

theorem within_f (a b c : Int) : impl_within.f a b c = some (decide (b ≤ a ∧ a ≤ c)) := by
  unfold impl_within.f
  by_cases h : a ≥ b
  · rw [if_pos h]; simp [show b ≤ a from h]
  · rw [if_neg h]; simp [show ¬ b ≤ a from h]
theorem l01In_f (a b c : Int) : spec_l01In.f a b c = some (decide (b ≤ a ∧ a ≤ c)) := by
  unfold spec_l01In.f
  by_cases h : a ≥ b
  · rw [if_pos h]; simp [show b ≤ a from h]
  · rw [if_neg h]; simp [show ¬ b ≤ a from h]

theorem rdL_get (l : List (List Int)) (i : Nat) (h : i < l.length) : rd_L1 l (i : Int) = l[i] := by simp [rd_L1, List.getD_eq_getElem?_getD, h]
theorem maxLen_le {n : Nat} (h : n ≤ maxLen) : n ≤ 9223372036854775807 := by unfold maxLen at h; exact h
theorem szS_f (x : List Int) (hx : x.length ≤ maxLen) (left : Int) (h0 : 0 ≤ left) (h1 : left ≤ 1048576) : laws_szIntS.f x left = some (if (x.length : Int) ≤ left then left - (x.length : Int) else -1) := by
  have := maxLen_le hx
  unfold laws_szIntS.f
  rw [w64 (by omega) (by omega)]
  by_cases h : (x.length : Int) ≤ left
  · rw [if_neg (by omega), if_pos h]
  · rw [if_pos (by omega), if_neg h]
theorem szSS_l (l : List (List Int)) (hl : l.length ≤ 1048576) (hx : ∀ x ∈ l, x.length ≤ maxLen) (d : Nat) : ∀ (k i : Nat) (left : Int), l.length - i = d → i ≤ l.length → d < k → 0 ≤ left → left ≤ 1048576 → ∃ r, laws_szIntSS.l0 k l left (i : Int) = some r ∧ (0 ≤ r → ∀ (j : Nat) (hj : j < l.length), i ≤ j → (l[j]).length ≤ 1048576) := by
  induction d with
  | zero =>
    intro k i left hd hi hk h0 h1
    obtain ⟨k, rfl⟩ := succ_of hk
    refine ⟨left, ?_, fun _ j hj hij => by omega⟩
    simp only [laws_szIntSS.l0, lt_f (show l.length ≤ i by omega), if_false]
  | succ d ih =>
    intro k i left hd hi hk h0 h1
    obtain ⟨k, rfl⟩ := succ_of hk
    have hlt : i < l.length := by omega
    simp only [laws_szIntSS.l0, lt_t hlt, nn_t, if_true, rdL_get l i hlt, szS_f _ (hx _ (List.getElem_mem hlt)) left h0 h1, Option.bind_some, w1 (show i ≤ 140737488355328 by omega)]
    by_cases h : ((l[i]).length : Int) ≤ left
    · rw [if_pos h, if_neg (by omega)]
      obtain ⟨r, h2, h3⟩ := ih k (i + 1) (left - ((l[i]).length : Int)) (by omega) (by omega) (by omega) (by omega) (by omega)
      refine ⟨r, h2, fun hr j hj hij => ?_⟩
      by_cases e : j = i
      · subst e; omega
      · exact h3 hr j hj (by omega)
    · rw [if_neg h]
      exact ⟨-1, by simp, fun h => by omega⟩
theorem szSS (l : List (List Int)) (hm : l.length ≤ maxLen) (hx : ∀ x ∈ l, x.length ≤ maxLen) (k : Nat) (hk : 1048577 < k) : ∃ r, laws_szIntSS.f k l 1048576 = some r ∧ (0 ≤ r → l.length ≤ 1048576 ∧ ∀ x ∈ l, x.length ≤ 1048576) := by
  have := maxLen_le hm
  unfold laws_szIntSS.f
  rw [w64 (by omega) (by omega)]
  by_cases h : (l.length : Int) ≤ 1048576
  · rw [if_neg (by omega)]
    obtain ⟨r, h1, h2⟩ := szSS_l l (by omega) hx l.length k 0 (1048576 - (l.length : Int)) (by omega) (by omega) (by omega) (by omega) (by omega)
    refine ⟨r, h1, fun hr => ⟨by omega, fun x hx => ?_⟩⟩
    obtain ⟨j, hj, rfl⟩ := List.getElem_of_mem hx
    exact h2 hr j hj (by omega)
  · rw [if_pos (by omega)]
    exact ⟨-1, rfl, fun h => by omega⟩
theorem toIntSS_l (l : List (List Int)) (hl : l.length ≤ 1048576) (hx : ∀ x ∈ l, x.length ≤ 1048576) (d : Nat) : ∀ (k : Nat) (ys : List (List Int)) (i : Nat), l.length - i = d → i ≤ l.length → ys.length = l.length → ys.take i = l.take i → d + 1048577 < k → laws_toIntSS.l0 k l ys (i : Int) = some l := by
  induction d with
  | zero =>
    intro k ys i hd hi hy ht hk
    obtain ⟨k, rfl⟩ := succ_of (show 0 < k by omega)
    simp only [laws_toIntSS.l0, lt_f (show l.length ≤ i by omega), if_false]
    have : i = l.length := by omega
    subst this
    rw [List.take_length, ← hy, List.take_length] at ht
    rw [ht]
  | succ d ih =>
    intro k ys i hd hi hy ht hk
    obtain ⟨k, rfl⟩ := succ_of (show 0 < k by omega)
    have hlt : i < l.length := by omega
    have hx1 := hx _ (List.getElem_mem hlt)
    simp only [laws_toIntSS.l0, lt_t hlt, nn_t, if_true, rdL_get l i hlt, toIntS _ (show (l[i]).length ≤ 35184372088832 by omega) k (by omega), Option.bind_some, lt_t (show i < ys.length by omega), w1 (show i ≤ 140737488355328 by omega)]
    refine ih k _ (i + 1) (by omega) (by omega) (by simp [hy]) ?_ (by omega)
    rw [Int.toNat_natCast, List.take_add_one, List.take_add_one, List.take_set_of_le (Nat.le_refl _), ht]
    simp [hy, hlt]
theorem toIntSS (l : List (List Int)) (hl : l.length ≤ 1048576) (hx : ∀ x ∈ l, x.length ≤ 1048576) (k : Nat) (hk : l.length + 1048577 < k) : laws_toIntSS.f k l = some l := by
  unfold laws_toIntSS.f
  rw [if_pos (by omega), if_pos (by omega)]
  exact toIntSS_l l hl hx l.length k _ 0 (by omega) (by omega) (by simp) rfl hk
theorem eqIntSS_self_l (l : List (List Int)) (hl : l.length ≤ 1048576) (hx : ∀ x ∈ l, x.length ≤ 1048576) (d : Nat) : ∀ (k i : Nat), l.length - i = d → i ≤ l.length → d + 1048577 < k → laws_eqIntSS.l0 k l l (i : Int) = some true := by
  induction d with
  | zero =>
    intro k i hd hi hk
    obtain ⟨k, rfl⟩ := succ_of (show 0 < k by omega)
    simp only [laws_eqIntSS.l0, lt_f (show l.length ≤ i by omega), if_false]
  | succ d ih =>
    intro k i hd hi hk
    obtain ⟨k, rfl⟩ := succ_of (show 0 < k by omega)
    have hlt : i < l.length := by omega
    have hx1 := hx _ (List.getElem_mem hlt)
    simp only [laws_eqIntSS.l0, lt_t hlt, nn_t, if_true, rdL_get l i hlt, eqIntS _ _ (show (l[i]).length ≤ 35184372088832 by omega) k (show (l[i]).length < k by omega), Option.bind_some, w1 (show i ≤ 140737488355328 by omega), decide_true]
    exact ih k (i + 1) (by omega) (by omega) (by omega)
theorem eqIntSS_self (l : List (List Int)) (hl : l.length ≤ 1048576) (hx : ∀ x ∈ l, x.length ≤ 1048576) (k : Nat) (hk : l.length + 1048577 < k) : laws_eqIntSS.f k l l = some true := by
  unfold laws_eqIntSS.f
  rw [if_pos rfl]
  exact eqIntSS_self_l l hl hx l.length k 0 (by omega) (by omega) hk

def fitOne (w : Int) (p : List Int) : Bool := decide (p.length = 2 ∧ (1 ≤ rd p 0 ∧ rd p 0 ≤ w) ∧ (1 ≤ rd p 1 ∧ rd p 1 ≤ 100))
theorem fit_l (w : Int) (l : List (List Int)) (hl : l.length ≤ 12) (d : Nat) : ∀ (k i : Nat), l.length - i = d → i ≤ l.length → d < k → spec_PiecesFit.l0 k w l (l.length : Int) (i : Int) = some ((l.drop i).all (fitOne w)) := by
  induction d with
  | zero =>
    intro k i hd hi hk
    obtain ⟨k, rfl⟩ := succ_of hk
    simp only [spec_PiecesFit.l0, lt_f (show l.length ≤ i by omega), if_false, List.drop_of_length_le (show l.length ≤ i by omega), List.all_nil]
  | succ d ih =>
    intro k i hd hi hk
    obtain ⟨k, rfl⟩ := succ_of hk
    have hlt : i < l.length := by omega
    have hih := ih k (i + 1) (by omega) (by omega) (by omega)
    rw [List.drop_eq_getElem_cons hlt, List.all_cons]
    simp only [spec_PiecesFit.l0, lt_t hlt, nn_t, if_true, rdL_get l i hlt, l01In_f, Option.bind_some, w1 (show i ≤ 140737488355328 by omega), hih]
    generalize (l.drop (i + 1)).all (fitOne w) = q
    generalize l[i] = p
    unfold fitOne
    generalize rd p 0 = a
    generalize rd p 1 = b
    by_cases h3 : p.length = 2
    · simp only [show ((p.length : Int) = 2) = True from eq_true (by omega), show (0 < (p.length : Int)) = True from eq_true (by omega), show (1 < (p.length : Int)) = True from eq_true (by omega), h3, if_true, true_and]
      by_cases g0 : 1 ≤ a ∧ a ≤ w
      · by_cases g1 : 1 ≤ b ∧ b ≤ 100
        · simp [g0, g1]
        · simp [g0, g1]
      · simp [g0]
    · have : ¬ ((p.length : Int) = 2) := by omega
      simp [this, h3]
theorem fit_split (w : Int) (hw : w ≤ 100) (l : List (List Int)) : l.all (fitOne w) = (l.all pieceOk && l.all (fitsIn w)) := by
  induction l with
  | nil => rfl
  | cons p r ih =>
    rw [List.all_cons, List.all_cons, List.all_cons, ih]
    have : fitOne w p = (pieceOk p && fitsIn w p) := by
      rw [Bool.eq_iff_iff]
      simp only [fitOne, pieceOk, fitsIn, Bool.and_eq_true, decide_eq_true_eq]
      omega
    rw [this]
    cases pieceOk p <;> cases fitsIn w p <;> simp
theorem fit_f (w : Int) (l : List (List Int)) (k : Nat) (hk : 14 < k) : spec_PiecesFit.f k w l = impl_PiecesFit.f w l := by
  unfold spec_PiecesFit.f impl_PiecesFit.f
  obtain ⟨k, rfl⟩ := succ_of hk
  simp only [l01In_f, Option.bind_some, spec_PiecesFit.j0]
  by_cases h1 : 1 ≤ w ∧ w ≤ 100
  · by_cases h2 : l.length ≤ 12
    · have := fit_l w l h2 l.length k 0 (by omega) (by omega) (by omega)
      simp only [Int.ofNat_zero, List.drop_zero] at this
      rw [this, fit_split w h1.2 l]
      generalize l.all pieceOk = q
      generalize l.all (fitsIn w) = q2
      simp [h1, h2, show ¬ (l.length : Int) > 12 by omega]
    · simp [h1, h2, show (l.length : Int) > 12 by omega]
  · simp [h1]

theorem fit_two {w : Int} {l : List (List Int)} (h : impl_PiecesFit.f w l = some true) : (1 ≤ w ∧ w ≤ 100) ∧ l.length ≤ 12 ∧ ∀ p ∈ l, p.length = 2 ∧ (1 ≤ rd p 0 ∧ rd p 0 ≤ w) ∧ (1 ≤ rd p 1 ∧ rd p 1 ≤ 100) := by
  unfold impl_PiecesFit.f at h
  simp only [Option.some.injEq, Bool.and_eq_true, decide_eq_true_eq, List.all_eq_true] at h
  obtain ⟨h1, ⟨h2, h3⟩, h4⟩ := h
  refine ⟨h1, h2, fun p hp => ?_⟩
  have a := h3 p hp
  have b := h4 p hp
  simp only [pieceOk, fitsIn, decide_eq_true_eq] at a b
  omega

theorem more_of {α : Type} {f : Nat → Option α} (h : ∀ k, LeO (f k) (f (k + 1))) {k : Nat} {r : α} (hr : f k = some r) (K : Nat) (hK : k ≤ K) : f K = some r := by
  obtain ⟨m, rfl⟩ := Nat.exists_eq_add_of_le hK
  clear hK
  induction m with
  | zero => exact hr
  | succ m ih => exact h (k + m) _ ih

def marked (a : Int) (n : Nat) : List Int := (List.range n).map fun j : Nat => a + (j : Int)
theorem marked_length (a : Int) (n : Nat) : (marked a n).length = n := by simp [marked]
theorem marked_get (a : Int) (n i : Nat) (h : i < n) : rd (marked a n) (i : Int) = a + (i : Int) := by
  rw [rd_get _ _ (by rw [marked_length]; exact h)]
  simp [marked]
theorem mark_l (n : Nat) (a : Int) (h0 : 0 ≤ a) (h1 : a + (n : Int) ≤ 4611686018427387904) (hn : n ≤ 140737488355328) (d : Nat) : ∀ (k i : Nat) (l : List Int), n - i = d → i ≤ n → l.length = n → l.take i = marked a i → d < k → laws_markIntS.l0 k l (a + (i : Int)) (i : Int) = some (a + (n : Int), marked a n) := by
  induction d with
  | zero =>
    intro k i l hd hi hl ht hk
    obtain ⟨k, rfl⟩ := succ_of hk
    have : i = n := by omega
    subst this
    subst hl
    simp only [laws_markIntS.l0, lt_f (Nat.le_refl l.length), if_false]
    rw [List.take_length] at ht
    rw [← ht]
  | succ d ih =>
    intro k i l hd hi hl ht hk
    obtain ⟨k, rfl⟩ := succ_of hk
    have hlt : i < l.length := by omega
    simp only [laws_markIntS.l0, lt_t hlt, nn_t, if_true, w1 (show i ≤ 140737488355328 by omega)]
    rw [w64 (by omega) (by omega), show a + (i : Int) + 1 = a + ((i + 1 : Nat) : Int) by omega]
    refine ih k (i + 1) _ (by omega) (by omega) (by simp [hl]) ?_ (by omega)
    rw [Int.toNat_natCast, List.take_add_one, List.take_set_of_le (Nat.le_refl _), ht]
    simp [hlt, marked, List.range_succ]
theorem mark_f (l : List Int) (a : Int) (h0 : 0 ≤ a) (h1 : a + (l.length : Int) ≤ 4611686018427387904) (hn : l.length ≤ 140737488355328) (k : Nat) (hk : l.length < k) : laws_markIntS.f k l a = some (a + (l.length : Int), marked a l.length) := by
  have := mark_l l.length a h0 h1 hn l.length k 0 l (by omega) (by omega) rfl (by simp [marked]) hk
  rw [Int.ofNat_zero, Int.add_zero] at this
  exact this
theorem held_l (n : Nat) (a : Int) (h0 : 0 ≤ a) (h1 : a + (n : Int) ≤ 4611686018427387904) (hn : n ≤ 140737488355328) (d : Nat) : ∀ (k i : Nat), n - i = d → i ≤ n → d < k → laws_heldIntS.l0 k (marked a n) (a + (i : Int)) (i : Int) = some (a + (n : Int)) := by
  induction d with
  | zero =>
    intro k i hd hi hk
    obtain ⟨k, rfl⟩ := succ_of hk
    have : i = n := by omega
    subst this
    simp only [laws_heldIntS.l0, marked_length, lt_f (Nat.le_refl i), if_false]
  | succ d ih =>
    intro k i hd hi hk
    obtain ⟨k, rfl⟩ := succ_of hk
    have hlt : i < n := by omega
    simp only [laws_heldIntS.l0, marked_length, lt_t hlt, nn_t, if_true, w1 (show i ≤ 140737488355328 by omega), marked_get a n i hlt]
    rw [w64 (by omega) (by omega), show a + (i : Int) + 1 = a + ((i + 1 : Nat) : Int) by omega]
    exact ih k (i + 1) (by omega) (by omega) (by omega)
theorem held_f (n : Nat) (a : Int) (h0 : 0 ≤ a) (h1 : a + (n : Int) ≤ 4611686018427387904) (hn : n ≤ 140737488355328) (k : Nat) (hk : n < k) : laws_heldIntS.f k (marked a n) a = some (a + (n : Int)) := by
  have := held_l n a h0 h1 hn n k 0 (by omega) (by omega) hk
  rw [Int.ofNat_zero, Int.add_zero] at this
  exact this

theorem mk_l (n : Nat) (a : Int) (h0 : 0 ≤ a) (h1 : a + (n : Int) ≤ 4611686018427387904) (hn : n ≤ 140737488355328) (d : Nat) : ∀ (k i : Nat), n - i = d → i ≤ n → d < k → mk.l0 k n (a + (i : Int)) (i : Int) = some (a + (n : Int)) := by
  induction d with
  | zero =>
    intro k i hd hi hk
    obtain ⟨k, rfl⟩ := succ_of hk
    have : i = n := by omega
    subst this
    simp only [mk.l0, lt_f (Nat.le_refl i), if_false]
  | succ d ih =>
    intro k i hd hi hk
    obtain ⟨k, rfl⟩ := succ_of hk
    have hlt : i < n := by omega
    simp only [mk.l0, lt_t hlt, nn_t, if_true, w1 (show i ≤ 140737488355328 by omega)]
    rw [w64 (by omega) (by omega), show a + (i : Int) + 1 = a + ((i + 1 : Nat) : Int) by omega]
    exact ih k (i + 1) (by omega) (by omega) (by omega)
theorem markSS_l (l : List (List Int)) (hl : l.length ≤ 1048576) (hx : ∀ x ∈ l, x.length ≤ 1048576) (d : Nat) : ∀ (k i : Nat) (a : Int), l.length - i = d → i ≤ l.length → d + 1048577 < k → 1 ≤ a → a ≤ 1 + 1048576 * (i : Int) → ∃ t, laws_markIntSS.l0 k l a (i : Int) = some t ∧ 0 ≤ t := by
  induction d with
  | zero =>
    intro k i a hd hi hk h0 h1
    obtain ⟨k, rfl⟩ := succ_of (show 0 < k by omega)
    exact ⟨a, by simp only [laws_markIntSS.l0, lt_f (show l.length ≤ i by omega), if_false], by omega⟩
  | succ d ih =>
    intro k i a hd hi hk h0 h1
    obtain ⟨k, rfl⟩ := succ_of (show 0 < k by omega)
    have hlt : i < l.length := by omega
    have hxi := hx _ (List.getElem_mem hlt)
    have hm := mk_l (l[i]).length a (by omega) (by omega) (by omega) (l[i]).length k 0 (by omega) (by omega) (by omega)
    rw [Int.ofNat_zero, Int.add_zero] at hm
    simp only [laws_markIntSS.l0, lt_t hlt, nn_t, if_true, rdL_get l i hlt, hm, Option.bind_some, w1 (show i ≤ 140737488355328 by omega)]
    exact ih k (i + 1) _ (by omega) (by omega) (by omega) (by omega) (by omega)
theorem markSS (l : List (List Int)) (hl : l.length ≤ 1048576) (hx : ∀ x ∈ l, x.length ≤ 1048576) (k : Nat) (hk : l.length + 1048577 < k) : ∃ t, laws_markIntSS.f k l 1 = some t ∧ 0 ≤ t := by
  have := markSS_l l hl hx l.length k 0 1 (by omega) (by omega) hk (by omega) (by omega)
  exact this

def lens : List (List Int) → Int
  | [] => 0
  | p :: t => (p.length : Int) + lens t
def marksL : List (List Int) → Int → List (List Int)
  | [], _ => []
  | p :: t, a => marked a p.length :: marksL t (a + (p.length : Int))
theorem lens_nonneg : ∀ l : List (List Int), 0 ≤ lens l
  | [] => Int.le_refl _
  | p :: t => by have := lens_nonneg t; unfold lens; omega
theorem mkT_l (n : Nat) (hn : n ≤ 20) (d : Nat) : ∀ (k i : Nat) (l : List (List Int)) (a : Int), l.length = n → n - i = d → i ≤ n → (∀ p ∈ l, p.length ≤ 100) → 0 ≤ a → a ≤ 1 + 100 * (i : Int) → d + 200 < k → mkT k l a (i : Int) = some (a + lens (l.drop i), l.take i ++ marksL (l.drop i) a) := by
  induction d with
  | zero =>
    intro k i l a hl hd hi hx h0 h1 hk
    obtain ⟨k, rfl⟩ := succ_of (show 0 < k by omega)
    simp only [mkT, lt_f (show l.length ≤ i by omega), if_false, List.drop_of_length_le (show l.length ≤ i by omega), List.take_of_length_le (show l.length ≤ i by omega), lens, marksL]
    simp
  | succ d ih =>
    intro k i l a hl hd hi hx h0 h1 hk
    obtain ⟨k, rfl⟩ := succ_of (show 0 < k by omega)
    have hlt : i < l.length := by omega
    have hp := hx _ (List.getElem_mem hlt)
    simp only [mkT, lt_t hlt, nn_t, if_true, rdL_get l i hlt, mark_f l[i] a h0 (by omega) (by omega) k (by omega), Option.bind_some, Int.toNat_natCast, w1 (show i ≤ 140737488355328 by omega)]
    rw [ih k (i + 1) (l.set i (marked a l[i].length)) (a + (l[i].length : Int)) (by rw [List.length_set]; exact hl) (by omega) (by omega) (fun p hp2 => by
      rcases List.mem_or_eq_of_mem_set hp2 with h | h
      · exact hx p h
      · rw [h, marked_length]; exact hp) (by omega) (by omega) (by omega)]
    rw [List.drop_set_of_lt (by omega), List.drop_eq_getElem_cons hlt, lens, marksL, List.take_add_one, List.take_set_of_le (Nat.le_refl _), List.getElem?_set_self hlt]
    simp
    omega
theorem heldSS_l : ∀ (rest : List (List Int)) (k i : Nat) (R : List (List Int)) (a : Int), R.drop i = marksL rest a → i ≤ R.length → R.length ≤ 100 → (∀ p ∈ rest, p.length ≤ 100) → 0 ≤ a → a ≤ 1 + 100 * (i : Int) → rest.length + 200 < k → laws_heldIntSS.l0 k R a (i : Int) = some (a + lens rest)
  | [], k, i, R, a, hR, hi, hl, hx, h0, h1, hk => by
    obtain ⟨k, rfl⟩ := succ_of (show 0 < k by omega)
    have h2 : R.length ≤ i := by
      have := congrArg List.length hR
      rw [List.length_drop] at this
      simp [marksL] at this
      omega
    simp only [laws_heldIntSS.l0, lt_f h2, if_false, lens, Int.add_zero]
  | p :: t, k, i, R, a, hR, hi, hl, hx, h0, h1, hk => by
    obtain ⟨k, rfl⟩ := succ_of (show 0 < k by omega)
    have hlt : i < R.length := by
      have := congrArg List.length hR
      rw [List.length_drop] at this
      simp [marksL] at this
      omega
    rw [List.drop_eq_getElem_cons hlt, marksL] at hR
    injection hR with e1 e2
    have hp := hx p (by simp)
    simp only [List.length_cons] at hk
    simp only [laws_heldIntSS.l0, lt_t hlt, nn_t, if_true, rdL_get R i hlt, e1, held_f p.length a h0 (by omega) (by omega) k (by omega), Option.bind_some, w1 (show i ≤ 140737488355328 by omega)]
    rw [if_neg (by omega), heldSS_l t k (i + 1) R (a + (p.length : Int)) e2 (by omega) hl (fun q hq => hx q (by simp [hq])) (by omega) (by omega) (by omega), lens]
    congr 1
    omega
theorem marksL_len : ∀ (l : List (List Int)) (a : Int), (marksL l a).length = l.length
  | [], _ => rfl
  | p :: t, a => by simp [marksL, marksL_len t]
theorem marksSS_f (r : List (List Int)) (hr : r.length ≤ 20) (hx : ∀ p ∈ r, p.length ≤ 100) (k : Nat) (hk : 300 < k) : mkT k r 1 0 = some (1 + lens r, marksL r 1) ∧ laws_heldIntSS.f k (marksL r 1) 1 = some (1 + lens r) := by
  have h1 := mkT_l r.length hr r.length k 0 r 1 rfl (by omega) (by omega) hx (by omega) (by omega) (by omega)
  have h2 := heldSS_l r k 0 (marksL r 1) 1 (by simp) (by omega) (by rw [marksL_len]; omega) hx (by omega) (by omega) (by omega)
  rw [List.drop_zero, List.take_zero, List.nil_append] at h1
  exact ⟨h1, h2⟩
theorem copy_l (l : List (List Int)) (hl : l.length ≤ 20) (hx : ∀ p ∈ l, p.length ≤ 100) (d : Nat) : ∀ (k i : Nat), l.length - i = d → i ≤ l.length → d < k → impl_copyLists.l0 k (l.take i) l (l.length : Int) (i : Int) = some l := by
  induction d with
  | zero =>
    intro k i hd hi hk
    obtain ⟨k, rfl⟩ := succ_of hk
    simp only [impl_copyLists.l0, lt_f (show l.length ≤ i by omega), if_false, List.take_of_length_le (show l.length ≤ i by omega)]
  | succ d ih =>
    intro k i hd hi hk
    obtain ⟨k, rfl⟩ := succ_of hk
    have hlt : i < l.length := by omega
    have hp := hx _ (List.getElem_mem hlt)
    have hih := ih k (i + 1) (by omega) (by omega) (by omega)
    simp only [impl_copyLists.l0, lt_t hlt, nn_t, if_true, rdL_get l i hlt, Option.bind_some, List.length_nil, List.nil_append, List.length_take, w1 (show i ≤ 140737488355328 by omega)]
    rw [if_pos (by omega), if_pos (by omega)]
    rw [List.take_add_one, List.getElem?_eq_getElem hlt] at hih
    exact hih
theorem copy_f (l : List (List Int)) (hl : l.length ≤ 20) (hx : ∀ p ∈ l, p.length ≤ 100) (k : Nat) (hk : 30 < k) : impl_copyLists.f k l = some l := by
  have := copy_l l hl hx l.length k 0 (by omega) (by omega) (by omega)
  rw [List.take_zero] at this
  exact this
theorem two_list {p : List Int} (h : p.length = 2) : [rd p 0, rd p 1] = p := by
  match p, h with
  | [a, b], _ => rfl

def turnOne (wd : Int) (p : List Int) : List Int := if rd p 1 > rd p 0 ∧ rd p 1 ≤ wd then [rd p 1, rd p 0] else p
theorem turn1_two {p : List Int} (h : p.length = 2) : turn1 p = [rd p 1, rd p 0] := by
  match p, h with
  | [a, b], _ => rfl
theorem spec_turn_l (l : List (List Int)) (wd : Int) (hl : l.length ≤ 12) (hx : ∀ p ∈ l, p.length = 2) (d : Nat) : ∀ (k i : Nat) (y : List (List Int)), l.length - i = d → i ≤ l.length → y = (l.take i).map (turnOne wd) → d < k → spec_TurnedPieces.l0 k wd y l (l.length : Int) (i : Int) = some (l.map (turnOne wd), true) := by
  induction d with
  | zero =>
    intro k i y hd hi hy hk
    obtain ⟨k, rfl⟩ := succ_of hk
    simp only [spec_TurnedPieces.l0, lt_f (show l.length ≤ i by omega), if_false]
    rw [hy, List.take_of_length_le (by omega)]
  | succ d ih =>
    intro k i y hd hi hy hk
    obtain ⟨k, rfl⟩ := succ_of hk
    have hlt : i < l.length := by omega
    have h2 := hx _ (List.getElem_mem hlt)
    have hyl : y.length = i := by rw [hy]; simp; omega
    have hih := ih k (i + 1) (y ++ [turnOne wd l[i]]) (by omega) (by omega) (by rw [hy, List.take_add_one, List.getElem?_eq_getElem hlt, List.map_append]; rfl) (by omega)
    simp only [spec_TurnedPieces.l0, lt_t hlt, nn_t, if_true, rdL_get l i hlt, w1 (show i ≤ 140737488355328 by omega)]
    rw [if_pos (by omega), if_pos (by omega)]
    unfold turnOne at hih
    by_cases h3 : rd l[i] 1 > rd l[i] 0
    · rw [if_pos h3]
      by_cases h4 : rd l[i] 1 ≤ wd
      · rw [if_pos ⟨h3, h4⟩] at hih
        rw [if_pos h4, if_pos (by omega)]
        exact hih
      · rw [if_neg (fun h => h4 h.2)] at hih
        rw [if_neg h4, if_pos (by omega), two_list h2]
        exact hih
    · rw [if_neg (fun h => h3 h.1)] at hih
      rw [if_neg h3, if_pos (by omega), two_list h2]
      exact hih
theorem impl_turn_l (l : List (List Int)) (wd : Int) (hl : l.length ≤ 12) (hx : ∀ p ∈ l, p.length = 2) (d : Nat) : ∀ (k i : Nat), l.length - i = d → i ≤ l.length → d < k → impl_TurnedPieces.l0 k wd ((l.take i).map (turnOne wd) ++ l.drop i) (i : Int) = some (l.map (turnOne wd)) := by
  induction d with
  | zero =>
    intro k i hd hi hk
    obtain ⟨k, rfl⟩ := succ_of hk
    rw [List.take_of_length_le (by omega), List.drop_of_length_le (by omega), List.append_nil]
    simp only [impl_TurnedPieces.l0, List.length_map, lt_f (show l.length ≤ i by omega), if_false]
  | succ d ih =>
    intro k i hd hi hk
    obtain ⟨k, rfl⟩ := succ_of hk
    have hlt : i < l.length := by omega
    have h2 := hx _ (List.getElem_mem hlt)
    have hih := ih k (i + 1) (by omega) (by omega) (by omega)
    have hyl : ((l.take i).map (turnOne wd)).length = i := by simp; omega
    rw [List.take_add_one, List.getElem?_eq_getElem hlt, List.map_append] at hih
    rw [List.drop_eq_getElem_cons hlt]
    generalize (l.take i).map (turnOne wd) = Y at hyl hih
    have hl2 : (Y ++ l[i] :: l.drop (i + 1)).length = l.length := by simp [hyl]; omega
    have hrd : rd_L1 (Y ++ l[i] :: l.drop (i + 1)) (i : Int) = l[i] := by
      rw [rdL_get _ i (by omega), List.getElem_append_right (by omega)]
      simp [hyl]
    have hset : ∀ z, (Y ++ l[i] :: l.drop (i + 1)).set i z = Y ++ z :: l.drop (i + 1) := by
      intro z
      rw [List.set_append_right _ _ (by omega), hyl, Nat.sub_self]
      rfl
    have hih2 : impl_TurnedPieces.l0 k wd (Y ++ turnOne wd l[i] :: l.drop (i + 1)) ((i + 1 : Nat) : Int) = some (l.map (turnOne wd)) := by
      rw [← hih]
      simp
    simp only [impl_TurnedPieces.l0, hl2, lt_t hlt, if_true, hrd, w1 (show i ≤ 140737488355328 by omega), Int.toNat_natCast, hset, turn1_two h2]
    rw [if_pos ⟨by omega, h2⟩]
    unfold turnOne at hih2
    by_cases h3 : rd l[i] 1 > rd l[i] 0
    · rw [if_pos h3]
      by_cases h4 : rd l[i] 1 ≤ wd
      · rw [if_pos ⟨h3, h4⟩] at hih2
        rw [if_pos h4]
        exact hih2
      · rw [if_neg (fun h => h4 h.2)] at hih2
        rw [if_neg h4]
        exact hih2
    · rw [if_neg (fun h => h3 h.1)] at hih2
      rw [if_neg h3]
      exact hih2
theorem turned_eq (l : List (List Int)) (wd : Int) (k : Nat) (hk : 300 < k) : ∃ r b, spec_TurnedPieces.f k l wd = some (r, b) ∧ impl_TurnedPieces.f k l wd = some (r, b) ∧ r.length ≤ 12 ∧ ∀ p ∈ r, p.length ≤ 100 := by
  unfold spec_TurnedPieces.f impl_TurnedPieces.f
  rw [fit_f wd l k (by omega)]
  obtain ⟨b, hb⟩ : ∃ b, impl_PiecesFit.f wd l = some b := ⟨_, rfl⟩
  rw [hb]
  simp only [Option.bind_some]
  cases b with
  | false => exact ⟨[], false, rfl, rfl, by simp, by simp⟩
  | true =>
    have hl : l.length ≤ 12 := (fit_two hb).2.1
    have hx : ∀ p ∈ l, p.length = 2 := fun p hp => ((fit_two hb).2.2 p hp).1
    refine ⟨l.map (turnOne wd), true, ?_, ?_, by simpa using hl, fun p hp => ?_⟩
    · rw [if_pos rfl]
      exact spec_turn_l l wd hl hx l.length k 0 [] (by omega) (by omega) (by simp) (by omega)
    · rw [if_pos rfl, copy_f l (by omega) (fun p hp => by rw [hx p hp]; omega) k (by omega), Option.bind_some]
      have := impl_turn_l l wd hl hx l.length k 0 (by omega) (by omega) (by omega)
      rw [List.take_zero, List.drop_zero, List.map_nil, List.nil_append, Int.ofNat_zero] at this
      rw [this]
      rfl
    · obtain ⟨q, hq, rfl⟩ := List.mem_map.mp hp
      unfold turnOne
      split
      · simp
      · rw [hx q hq]; omega
theorem FnExactTurnedPieces : laws_FnExactTurnedPieces.Pure := by
  intro l wd hm _ hw _
  refine ⟨2097160, ?_⟩
  obtain ⟨s, hs, hsz⟩ := szSS l hm (fun x hx => (hw x hx).1) 2097160 (by omega)
  refine ⟨s, hs, ?_⟩
  by_cases h : s < 0
  · exact .inl h
  · right
    obtain ⟨hl, hx⟩ := hsz (by omega)
    obtain ⟨r, b, h1, h2, hr, hrx⟩ := turned_eq l wd 2097160 (by omega)
    obtain ⟨m0, hm0, hm1⟩ := markSS l hl hx 2097160 (by omega)
    obtain ⟨g1, g2⟩ := marksSS_f r (by omega) hrx 2097160 (by omega)
    have := lens_nonneg r
    exact ⟨r, b, m0, 1 + lens r, marksL r 1, toIntSS l hl hx _ (by omega), h1, h2, eqIntSS_self r (by omega) (fun x hx => by have := hrx x hx; omega) _ (by omega), eqIntSS_self l hl hx _ (by omega), hm0, hm1, g1, g2, by omega, by omega⟩

end Go.Proofs.Ytcmmammefghjdaa.Pure
