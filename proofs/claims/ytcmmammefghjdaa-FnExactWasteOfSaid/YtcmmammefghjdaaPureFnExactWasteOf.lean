/- WasteOf: both texts take the area of the pieces off that of the strip. -/
import Derived.Test.YtcmmammefghjdaaXFnExactWasteOfx3
namespace Go.Proofs.Ytcmmammefghjdaa.Pure
open Go.RowKit Go.Proofs.Ytcmmammefghjdaa.XFnExactWasteOf Go.Proofs.YtcmmammefghjdaaW.PrintWords Go.Proofs.YtcmmammefghjdaaW.PrintLast
set_option linter.unusedVariables false
set_option linter.unusedSimpArgs false
theorem wf64 {x : Int} (h : (Lit.int .i64 x).wf = true) : -9223372036854775808 ≤ x ∧ x ≤ 9223372036854775807 := by
  simp only [Lit.wf, IntKind.min, IntKind.max, IntKind.signed, IntKind.bits, Bool.and_eq_true, decide_eq_true_eq, if_true] at h
  omega
theorem w64 {x : Int} (h0 : -9223372036854775808 ≤ x) (h1 : x ≤ 9223372036854775807) : wrap64 x = x := by
  unfold wrap64
  omega
theorem succ_of {d k : Nat} (h : d < k) : ∃ m, k = m + 1 := ⟨k - 1, by omega⟩
theorem rd_nat (l : List Int) (i : Nat) : rd l (i : Int) = l.getD i 0 := by simp [rd]
theorem rd_get (l : List Int) (i : Nat) (h : i < l.length) : rd l (i : Int) = l[i] := by simp [rd, List.getD_eq_getElem?_getD, h]
theorem w1 {i : Nat} (h : i ≤ 140737488355328) : wrap64 ((i : Int) + 1) = ((i + 1 : Nat) : Int) := by
  unfold wrap64
  omega
theorem lt_t {i n : Nat} (h : i < n) : ((i : Int) < (n : Int)) = True := eq_true (by omega)
theorem lt_f {i n : Nat} (h : n ≤ i) : ((i : Int) < (n : Int)) = False := eq_false (by omega)
theorem nn_t (i : Nat) : (0 ≤ (i : Int)) = True := eq_true (by omega)
theorem w64n (n : Nat) (h : n ≤ 9223372036854775807) : wrap64 (n : Int) = (n : Int) := w64 (by omega) (by omega)
theorem w64sub (a b c : Nat) (ha : a ≤ 9223372036854775807) (h : a = b + c) : wrap64 ((a : Int) - (b : Int)) = (c : Int) := by
  rw [w64 (by omega) (by omega)]
  omega

theorem toIntS_l (l : List Int) (hl : l.length ≤ 35184372088832) (d : Nat) : ∀ (k : Nat) (ys : List Int) (i : Nat), l.length - i = d → i ≤ l.length → ys.length = l.length → ys.take i = l.take i → d < k → laws_toIntS.l0 k l ys (i : Int) = some l := by
  induction d with
  | zero =>
    intro k ys i hd hi hy ht hk
    obtain ⟨k, rfl⟩ := succ_of hk
    simp only [laws_toIntS.l0]
    rw [if_neg (by omega)]
    have : i = l.length := by omega
    subst this
    rw [List.take_length, ← hy, List.take_length] at ht
    rw [ht]
  | succ d ih =>
    intro k ys i hd hi hy ht hk
    obtain ⟨k, rfl⟩ := succ_of hk
    simp only [laws_toIntS.l0]
    rw [if_pos (by omega), if_pos (by omega), if_pos (by omega), w1 (by omega), rd_get l i (by omega)]
    refine ih k _ (i + 1) (by omega) (by omega) (by simp [hy]) ?_ (by omega)
    rw [Int.toNat_natCast, List.take_add_one, List.take_add_one, List.take_set_of_le (Nat.le_refl _), ht]
    simp [hy, show i < l.length by omega]
theorem toIntS (l : List Int) (hl : l.length ≤ 35184372088832) (k : Nat) (hk : l.length < k) : laws_toIntS.f k l = some l := by
  unfold laws_toIntS.f
  rw [if_pos (by omega), if_pos (by omega)]
  exact toIntS_l l hl l.length k _ 0 (by omega) (by omega) (by simp) rfl hk
theorem eqIntS_l (l m : List Int) (hl : l.length ≤ 35184372088832) (he : l.length = m.length) (d : Nat) : ∀ (k : Nat) (i : Nat), l.length - i = d → i ≤ l.length → d < k → laws_eqIntS.l0 k l m (i : Int) = some (decide (l.drop i = m.drop i)) := by
  induction d with
  | zero =>
    intro k i hd hi hk
    obtain ⟨k, rfl⟩ := succ_of hk
    simp only [laws_eqIntS.l0]
    rw [if_neg (by omega), List.drop_of_length_le (by omega), List.drop_of_length_le (by omega)]
    simp
  | succ d ih =>
    intro k i hd hi hk
    obtain ⟨k, rfl⟩ := succ_of hk
    simp only [laws_eqIntS.l0]
    rw [if_pos (by omega), if_pos (by omega), if_pos (by omega), w1 (by omega), rd_get l i (by omega), rd_get m i (by omega), ih k (i + 1) (by omega) (by omega) (by omega)]
    have h1 := List.drop_eq_getElem_cons (show i < l.length by omega)
    have h2 := List.drop_eq_getElem_cons (show i < m.length by omega)
    by_cases e : l[i]'(by omega) = m[i]'(by omega)
    · rw [if_pos e, h1, h2]
      simp only [List.cons.injEq, e, true_and]
    · rw [if_neg e, h1, h2]
      simp only [List.cons.injEq, e, false_and, decide_false]
theorem eqIntS (l m : List Int) (hl : l.length ≤ 35184372088832) (k : Nat) (hk : l.length < k) : laws_eqIntS.f k l m = some (decide (l = m)) := by
  unfold laws_eqIntS.f
  by_cases e : l.length = m.length
  · rw [if_pos (by omega)]
    have := eqIntS_l l m hl e l.length k 0 (by omega) (by omega) hk
    simpa using this
  · rw [if_neg (by omega)]
    have : l ≠ m := fun h => e (by rw [h])
    simp [this]

theorem within_f (a b c : Int) : impl_within.f a b c = some (decide (b ≤ a ∧ a ≤ c)) := by
  unfold impl_within.f
  by_cases h : a ≥ b
  · rw [if_pos h]; simp [show b ≤ a from h]
  · rw [if_neg h]; simp [show ¬ b ≤ a from h]
theorem l01In_f (a b c : Int) : spec_l01In.f a b c = some (decide (b ≤ a ∧ a ≤ c)) := by
  unfold spec_l01In.f
  by_cases h : a ≥ b
  · rw [if_pos h]; simp [show b ≤ a from h]
  · rw [if_neg h]; simp [show ¬ b ≤ a from h]

theorem rdL_get (l : List (List Int)) (i : Nat) (h : i < l.length) : rd_L1 l (i : Int) = l[i] := by simp [rd_L1, List.getD_eq_getElem?_getD, h]
theorem maxLen_le {n : Nat} (h : n ≤ maxLen) : n ≤ 9223372036854775807 := by unfold maxLen at h; exact h
theorem szS_f (x : List Int) (hx : x.length ≤ maxLen) (left : Int) (h0 : 0 ≤ left) (h1 : left ≤ 1048576) : laws_szIntS.f x left = some (if (x.length : Int) ≤ left then left - (x.length : Int) else -1) := by
  have := maxLen_le hx
  unfold laws_szIntS.f
  rw [w64 (by omega) (by omega)]
  by_cases h : (x.length : Int) ≤ left
  · rw [if_neg (by omega), if_pos h]
  · rw [if_pos (by omega), if_neg h]
theorem szSS_l (l : List (List Int)) (hl : l.length ≤ 1048576) (hx : ∀ x ∈ l, x.length ≤ maxLen) (d : Nat) : ∀ (k i : Nat) (left : Int), l.length - i = d → i ≤ l.length → d < k → 0 ≤ left → left ≤ 1048576 → ∃ r, laws_szIntSS.l0 k l left (i : Int) = some r ∧ (0 ≤ r → ∀ (j : Nat) (hj : j < l.length), i ≤ j → (l[j]).length ≤ 1048576) := by
  induction d with
  | zero =>
    intro k i left hd hi hk h0 h1
    obtain ⟨k, rfl⟩ := succ_of hk
    refine ⟨left, ?_, fun _ j hj hij => by omega⟩
    simp only [laws_szIntSS.l0, lt_f (show l.length ≤ i by omega), if_false]
  | succ d ih =>
    intro k i left hd hi hk h0 h1
    obtain ⟨k, rfl⟩ := succ_of hk
    have hlt : i < l.length := by omega
    simp only [laws_szIntSS.l0, lt_t hlt, nn_t, if_true, rdL_get l i hlt, szS_f _ (hx _ (List.getElem_mem hlt)) left h0 h1, Option.bind_some, w1 (show i ≤ 140737488355328 by omega)]
    by_cases h : ((l[i]).length : Int) ≤ left
    · rw [if_pos h, if_neg (by omega)]
      obtain ⟨r, h2, h3⟩ := ih k (i + 1) (left - ((l[i]).length : Int)) (by omega) (by omega) (by omega) (by omega) (by omega)
      refine ⟨r, h2, fun hr j hj hij => ?_⟩
      by_cases e : j = i
      · subst e; omega
      · exact h3 hr j hj (by omega)
    · rw [if_neg h]
      exact ⟨-1, by simp, fun h => by omega⟩
theorem szSS (l : List (List Int)) (hm : l.length ≤ maxLen) (hx : ∀ x ∈ l, x.length ≤ maxLen) (k : Nat) (hk : 1048577 < k) : ∃ r, laws_szIntSS.f k l 1048576 = some r ∧ (0 ≤ r → l.length ≤ 1048576 ∧ ∀ x ∈ l, x.length ≤ 1048576) := by
  have := maxLen_le hm
  unfold laws_szIntSS.f
  rw [w64 (by omega) (by omega)]
  by_cases h : (l.length : Int) ≤ 1048576
  · rw [if_neg (by omega)]
    obtain ⟨r, h1, h2⟩ := szSS_l l (by omega) hx l.length k 0 (1048576 - (l.length : Int)) (by omega) (by omega) (by omega) (by omega) (by omega)
    refine ⟨r, h1, fun hr => ⟨by omega, fun x hx => ?_⟩⟩
    obtain ⟨j, hj, rfl⟩ := List.getElem_of_mem hx
    exact h2 hr j hj (by omega)
  · rw [if_pos (by omega)]
    exact ⟨-1, rfl, fun h => by omega⟩
theorem toIntSS_l (l : List (List Int)) (hl : l.length ≤ 1048576) (hx : ∀ x ∈ l, x.length ≤ 1048576) (d : Nat) : ∀ (k : Nat) (ys : List (List Int)) (i : Nat), l.length - i = d → i ≤ l.length → ys.length = l.length → ys.take i = l.take i → d + 1048577 < k → laws_toIntSS.l0 k l ys (i : Int) = some l := by
  induction d with
  | zero =>
    intro k ys i hd hi hy ht hk
    obtain ⟨k, rfl⟩ := succ_of (show 0 < k by omega)
    simp only [laws_toIntSS.l0, lt_f (show l.length ≤ i by omega), if_false]
    have : i = l.length := by omega
    subst this
    rw [List.take_length, ← hy, List.take_length] at ht
    rw [ht]
  | succ d ih =>
    intro k ys i hd hi hy ht hk
    obtain ⟨k, rfl⟩ := succ_of (show 0 < k by omega)
    have hlt : i < l.length := by omega
    have hx1 := hx _ (List.getElem_mem hlt)
    simp only [laws_toIntSS.l0, lt_t hlt, nn_t, if_true, rdL_get l i hlt, toIntS _ (show (l[i]).length ≤ 35184372088832 by omega) k (by omega), Option.bind_some, lt_t (show i < ys.length by omega), w1 (show i ≤ 140737488355328 by omega)]
    refine ih k _ (i + 1) (by omega) (by omega) (by simp [hy]) ?_ (by omega)
    rw [Int.toNat_natCast, List.take_add_one, List.take_add_one, List.take_set_of_le (Nat.le_refl _), ht]
    simp [hy, hlt]
theorem toIntSS (l : List (List Int)) (hl : l.length ≤ 1048576) (hx : ∀ x ∈ l, x.length ≤ 1048576) (k : Nat) (hk : l.length + 1048577 < k) : laws_toIntSS.f k l = some l := by
  unfold laws_toIntSS.f
  rw [if_pos (by omega), if_pos (by omega)]
  exact toIntSS_l l hl hx l.length k _ 0 (by omega) (by omega) (by simp) rfl hk
theorem eqIntSS_self_l (l : List (List Int)) (hl : l.length ≤ 1048576) (hx : ∀ x ∈ l, x.length ≤ 1048576) (d : Nat) : ∀ (k i : Nat), l.length - i = d → i ≤ l.length → d + 1048577 < k → laws_eqIntSS.l0 k l l (i : Int) = some true := by
  induction d with
  | zero =>
    intro k i hd hi hk
    obtain ⟨k, rfl⟩ := succ_of (show 0 < k by omega)
    simp only [laws_eqIntSS.l0, lt_f (show l.length ≤ i by omega), if_false]
  | succ d ih =>
    intro k i hd hi hk
    obtain ⟨k, rfl⟩ := succ_of (show 0 < k by omega)
    have hlt : i < l.length := by omega
    have hx1 := hx _ (List.getElem_mem hlt)
    simp only [laws_eqIntSS.l0, lt_t hlt, nn_t, if_true, rdL_get l i hlt, eqIntS _ _ (show (l[i]).length ≤ 35184372088832 by omega) k (show (l[i]).length < k by omega), Option.bind_some, w1 (show i ≤ 140737488355328 by omega), decide_true]
    exact ih k (i + 1) (by omega) (by omega) (by omega)
theorem eqIntSS_self (l : List (List Int)) (hl : l.length ≤ 1048576) (hx : ∀ x ∈ l, x.length ≤ 1048576) (k : Nat) (hk : l.length + 1048577 < k) : laws_eqIntSS.f k l l = some true := by
  unfold laws_eqIntSS.f
  rw [if_pos rfl]
  exact eqIntSS_self_l l hl hx l.length k 0 (by omega) (by omega) hk

def fitOne (w : Int) (p : List Int) : Bool := decide (p.length = 2 ∧ (1 ≤ rd p 0 ∧ rd p 0 ≤ w) ∧ (1 ≤ rd p 1 ∧ rd p 1 ≤ 100))
theorem fit_l (w : Int) (l : List (List Int)) (hl : l.length ≤ 12) (d : Nat) : ∀ (k i : Nat), l.length - i = d → i ≤ l.length → d < k → spec_PiecesFit.l0 k w l (l.length : Int) (i : Int) = some ((l.drop i).all (fitOne w)) := by
  induction d with
  | zero =>
    intro k i hd hi hk
    obtain ⟨k, rfl⟩ := succ_of hk
    simp only [spec_PiecesFit.l0, lt_f (show l.length ≤ i by omega), if_false, List.drop_of_length_le (show l.length ≤ i by omega), List.all_nil]
  | succ d ih =>
    intro k i hd hi hk
    obtain ⟨k, rfl⟩ := succ_of hk
    have hlt : i < l.length := by omega
    have hih := ih k (i + 1) (by omega) (by omega) (by omega)
    rw [List.drop_eq_getElem_cons hlt, List.all_cons]
    simp only [spec_PiecesFit.l0, lt_t hlt, nn_t, if_true, rdL_get l i hlt, l01In_f, Option.bind_some, w1 (show i ≤ 140737488355328 by omega), hih]
    generalize (l.drop (i + 1)).all (fitOne w) = q
    generalize l[i] = p
    unfold fitOne
    generalize rd p 0 = a
    generalize rd p 1 = b
    by_cases h3 : p.length = 2
    · simp only [show ((p.length : Int) = 2) = True from eq_true (by omega), show (0 < (p.length : Int)) = True from eq_true (by omega), show (1 < (p.length : Int)) = True from eq_true (by omega), h3, if_true, true_and]
      by_cases g0 : 1 ≤ a ∧ a ≤ w
      · by_cases g1 : 1 ≤ b ∧ b ≤ 100
        · simp [g0, g1]
        · simp [g0, g1]
      · simp [g0]
    · have : ¬ ((p.length : Int) = 2) := by omega
      simp [this, h3]
theorem fit_split (w : Int) (hw : w ≤ 100) (l : List (List Int)) : l.all (fitOne w) = (l.all pieceOk && l.all (fitsIn w)) := by
  induction l with
  | nil => rfl
  | cons p r ih =>
    rw [List.all_cons, List.all_cons, List.all_cons, ih]
    have : fitOne w p = (pieceOk p && fitsIn w p) := by
      rw [Bool.eq_iff_iff]
      simp only [fitOne, pieceOk, fitsIn, Bool.and_eq_true, decide_eq_true_eq]
      omega
    rw [this]
    cases pieceOk p <;> cases fitsIn w p <;> simp
theorem fit_f (w : Int) (l : List (List Int)) (k : Nat) (hk : 14 < k) : spec_PiecesFit.f k w l = impl_PiecesFit.f w l := by
  unfold spec_PiecesFit.f impl_PiecesFit.f
  obtain ⟨k, rfl⟩ := succ_of hk
  simp only [l01In_f, Option.bind_some, spec_PiecesFit.j0]
  by_cases h1 : 1 ≤ w ∧ w ≤ 100
  · by_cases h2 : l.length ≤ 12
    · have := fit_l w l h2 l.length k 0 (by omega) (by omega) (by omega)
      simp only [Int.ofNat_zero, List.drop_zero] at this
      rw [this, fit_split w h1.2 l]
      generalize l.all pieceOk = q
      generalize l.all (fitsIn w) = q2
      simp [h1, h2, show ¬ (l.length : Int) > 12 by omega]
    · simp [h1, h2, show (l.length : Int) > 12 by omega]
  · simp [h1]

theorem fit_two {w : Int} {l : List (List Int)} (h : impl_PiecesFit.f w l = some true) : (1 ≤ w ∧ w ≤ 100) ∧ l.length ≤ 12 ∧ ∀ p ∈ l, p.length = 2 ∧ (1 ≤ rd p 0 ∧ rd p 0 ≤ w) ∧ (1 ≤ rd p 1 ∧ rd p 1 ≤ 100) := by
  unfold impl_PiecesFit.f at h
  simp only [Option.some.injEq, Bool.and_eq_true, decide_eq_true_eq, List.all_eq_true] at h
  obtain ⟨h1, ⟨h2, h3⟩, h4⟩ := h
  refine ⟨h1, h2, fun p hp => ?_⟩
  have a := h3 p hp
  have b := h4 p hp
  simp only [pieceOk, fitsIn, decide_eq_true_eq] at a b
  omega
theorem area_l (l : List (List Int)) (hl : l.length ≤ 12) (h2 : ∀ p ∈ l, p.length = 2) (d : Nat) : ∀ (k i : Nat) (s : Int), l.length - i = d → i ≤ l.length → d < k → ∃ r, spec_l15Area.l0 k s l (l.length : Int) (i : Int) = some r ∧ impl_areaOf.l0 k s l (l.length : Int) (i : Int) = some r := by
  induction d with
  | zero =>
    intro k i s hd hi hk
    obtain ⟨k, rfl⟩ := succ_of hk
    simp only [spec_l15Area.l0, impl_areaOf.l0, lt_f (show l.length ≤ i by omega), if_false]
    exact ⟨_, rfl, rfl⟩
  | succ d ih =>
    intro k i s hd hi hk
    obtain ⟨k, rfl⟩ := succ_of hk
    have hlt : i < l.length := by omega
    have hp := h2 _ (List.getElem_mem hlt)
    simp only [spec_l15Area.l0, impl_areaOf.l0, lt_t hlt, nn_t, if_true, rdL_get l i hlt, w1 (show i ≤ 140737488355328 by omega), show (0 < ((l[i]).length : Int)) = True from eq_true (by omega), show (1 < ((l[i]).length : Int)) = True from eq_true (by omega)]
    exact ih k (i + 1) _ (by omega) (by omega) (by omega)
theorem area_f (l : List (List Int)) (hl : l.length ≤ 12) (h2 : ∀ p ∈ l, p.length = 2) (k : Nat) (hk : 13 < k) : ∃ r, spec_l15Area.f k l = some r ∧ impl_areaOf.f k l = some r := area_l l hl h2 l.length k 0 0 (by omega) (by omega) (by omega)

theorem waste_both (w h : Int) (l : List (List Int)) (k : Nat) (hk : 20 < k) : ∃ r, spec_WasteOf.f k w h l = some r ∧ impl_WasteOf.f k w h l = some r := by
  unfold spec_WasteOf.f impl_WasteOf.f
  rw [fit_f w l k (by omega)]
  obtain ⟨b, hb⟩ : ∃ b, impl_PiecesFit.f w l = some b := ⟨_, rfl⟩
  rw [hb]
  simp only [Option.bind_some, l01In_f, within_f]
  cases b with
  | false => exact ⟨-1, by simp, by simp⟩
  | true =>
    obtain ⟨_, h2, h3⟩ := fit_two hb
    obtain ⟨r, r1, r2⟩ := area_f l h2 (fun p hp => (h3 p hp).1) k (by omega)
    by_cases g : 0 ≤ h ∧ h ≤ 1200
    · refine ⟨mx (-1) (wrap64 (wrap64 (w * h) - r)), ?_, ?_⟩
      · simp [g, r1]
      · simp [g, r2]
    · exact ⟨-1, by simp [g], by simp [g]⟩
theorem FnExactWasteOf : laws_FnExactWasteOf.Pure := by
  intro w h l _ _ hm _ hw
  obtain ⟨r, h1, h2⟩ := szSS l hm (fun x hx => (hw x hx).1) (2097160) (by omega)
  refine ⟨2097160, ?_⟩
  unfold laws_FnExactWasteOf.f
  rw [h1]
  simp only [Option.bind_some]
  by_cases hr : r < 0
  · rw [if_pos hr]
  · obtain ⟨h3, h4⟩ := h2 (by omega)
    obtain ⟨q, q1, q2⟩ := waste_both w h l 2097160 (by omega)
    rw [if_neg hr, toIntSS l h3 h4 _ (by omega)]
    simp only [Option.bind_some, q1, q2, eqIntSS_self l h3 h4 2097160 (by omega)]
    simp

end Go.Proofs.Ytcmmammefghjdaa.Pure
