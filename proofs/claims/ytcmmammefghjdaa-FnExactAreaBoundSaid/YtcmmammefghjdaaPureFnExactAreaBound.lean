/- AreaBound: both texts fill a table over the areas; one of them begins each entry with the one before it, which changes nothing, since the table never falls. -/
import Derived.Test.YtcmmammefghjdaaXFnExactAreaBoundx5
namespace Go.Proofs.Ytcmmammefghjdaa.Pure
open Go.RowKit Go.Proofs.Ytcmmammefghjdaa.XFnExactAreaBound Go.Proofs.YtcmmammefghjdaaW.PrintWords Go.Proofs.YtcmmammefghjdaaW.PrintLast
set_option linter.unusedVariables false
set_option linter.unusedSimpArgs false
theorem wf64 {x : Int} (h : (Lit.int .i64 x).wf = true) : -9223372036854775808 ≤ x ∧ x ≤ 9223372036854775807 := by
  simp only [Lit.wf, IntKind.min, IntKind.max, IntKind.signed, IntKind.bits, Bool.and_eq_true, decide_eq_true_eq, if_true] at h
  omega
theorem w64 {x : Int} (h0 : -9223372036854775808 ≤ x) (h1 : x ≤ 9223372036854775807) : wrap64 x = x := by
  unfold wrap64
  omega
theorem succ_of {d k : Nat} (h : d < k) : ∃ m, k = m + 1 := ⟨k - 1, by omega⟩
theorem rd_nat (l : List Int) (i : Nat) : rd l (i : Int) = l.getD i 0 := by simp [rd]
theorem rd_get (l : List Int) (i : Nat) (h : i < l.length) : rd l (i : Int) = l[i] := by simp [rd, List.getD_eq_getElem?_getD, h]
theorem w1 {i : Nat} (h : i ≤ 140737488355328) : wrap64 ((i : Int) + 1) = ((i + 1 : Nat) : Int) := by
  unfold wrap64
  omega
theorem lt_t {i n : Nat} (h : i < n) : ((i : Int) < (n : Int)) = True := eq_true (by omega)
theorem lt_f {i n : Nat} (h : n ≤ i) : ((i : Int) < (n : Int)) = False := eq_false (by omega)
theorem nn_t (i : Nat) : (0 ≤ (i : Int)) = True := eq_true (by omega)
theorem w64n (n : Nat) (h : n ≤ 9223372036854775807) : wrap64 (n : Int) = (n : Int) := w64 (by omega) (by omega)
theorem w64sub (a b c : Nat) (ha : a ≤ 9223372036854775807) (h : a = b + c) : wrap64 ((a : Int) - (b : Int)) = (c : Int) := by
  rw [w64 (by omega) (by omega)]
  omega

theorem toIntS_l (l : List Int) (hl : l.length ≤ 35184372088832) (d : Nat) : ∀ (k : Nat) (ys : List Int) (i : Nat), l.length - i = d → i ≤ l.length → ys.length = l.length → ys.take i = l.take i → d < k → laws_toIntS.l0 k l ys (i : Int) = some l := by
  induction d with
  | zero =>
    intro k ys i hd hi hy ht hk
    obtain ⟨k, rfl⟩ := succ_of hk
    simp only [laws_toIntS.l0]
    rw [if_neg (by omega)]
    have : i = l.length := by omega
    subst this
    rw [List.take_length, ← hy, List.take_length] at ht
    rw [ht]
  | succ d ih =>
    intro k ys i hd hi hy ht hk
    obtain ⟨k, rfl⟩ := succ_of hk
    simp only [laws_toIntS.l0]
    rw [if_pos (by omega), if_pos (by omega), if_pos (by omega), w1 (by omega), rd_get l i (by omega)]
    refine ih k _ (i + 1) (by omega) (by omega) (by simp [hy]) ?_ (by omega)
    rw [Int.toNat_natCast, List.take_add_one, List.take_add_one, List.take_set_of_le (Nat.le_refl _), ht]
    simp [hy, show i < l.length by omega]
theorem toIntS (l : List Int) (hl : l.length ≤ 35184372088832) (k : Nat) (hk : l.length < k) : laws_toIntS.f k l = some l := by
  unfold laws_toIntS.f
  rw [if_pos (by omega), if_pos (by omega)]
  exact toIntS_l l hl l.length k _ 0 (by omega) (by omega) (by simp) rfl hk
theorem eqIntS_l (l m : List Int) (hl : l.length ≤ 35184372088832) (he : l.length = m.length) (d : Nat) : ∀ (k : Nat) (i : Nat), l.length - i = d → i ≤ l.length → d < k → laws_eqIntS.l0 k l m (i : Int) = some (decide (l.drop i = m.drop i)) := by
  induction d with
  | zero =>
    intro k i hd hi hk
    obtain ⟨k, rfl⟩ := succ_of hk
    simp only [laws_eqIntS.l0]
    rw [if_neg (by omega), List.drop_of_length_le (by omega), List.drop_of_length_le (by omega)]
    simp
  | succ d ih =>
    intro k i hd hi hk
    obtain ⟨k, rfl⟩ := succ_of hk
    simp only [laws_eqIntS.l0]
    rw [if_pos (by omega), if_pos (by omega), if_pos (by omega), w1 (by omega), rd_get l i (by omega), rd_get m i (by omega), ih k (i + 1) (by omega) (by omega) (by omega)]
    have h1 := List.drop_eq_getElem_cons (show i < l.length by omega)
    have h2 := List.drop_eq_getElem_cons (show i < m.length by omega)
    by_cases e : l[i]'(by omega) = m[i]'(by omega)
    · rw [if_pos e, h1, h2]
      simp only [List.cons.injEq, e, true_and]
    · rw [if_neg e, h1, h2]
      simp only [List.cons.injEq, e, false_and, decide_false]
theorem eqIntS (l m : List Int) (hl : l.length ≤ 35184372088832) (k : Nat) (hk : l.length < k) : laws_eqIntS.f k l m = some (decide (l = m)) := by
  unfold laws_eqIntS.f
  by_cases e : l.length = m.length
  · rw [if_pos (by omega)]
    have := eqIntS_l l m hl e l.length k 0 (by omega) (by omega) hk
    simpa using this
  · rw [if_neg (by omega)]
    have : l ≠ m := fun h => e (by rw [h])
    simp [this]

theorem within_f (a b c : Int) : impl_within.f a b c = some (decide (b ≤ a ∧ a ≤ c)) := by
  unfold impl_within.f
  by_cases h : a ≥ b
  · rw [if_pos h]; simp [show b ≤ a from h]
  · rw [if_neg h]; simp [show ¬ b ≤ a from h]
theorem l01In_f (a b c : Int) : spec_l01In.f a b c = some (decide (b ≤ a ∧ a ≤ c)) := by
  unfold spec_l01In.f
  by_cases h : a ≥ b
  · rw [if_pos h]; simp [show b ≤ a from h]
  · rw [if_neg h]; simp [show ¬ b ≤ a from h]

theorem rdL_get (l : List (List Int)) (i : Nat) (h : i < l.length) : rd_L1 l (i : Int) = l[i] := by simp [rd_L1, List.getD_eq_getElem?_getD, h]
theorem maxLen_le {n : Nat} (h : n ≤ maxLen) : n ≤ 9223372036854775807 := by unfold maxLen at h; exact h
theorem szS_f (x : List Int) (hx : x.length ≤ maxLen) (left : Int) (h0 : 0 ≤ left) (h1 : left ≤ 1048576) : laws_szIntS.f x left = some (if (x.length : Int) ≤ left then left - (x.length : Int) else -1) := by
  have := maxLen_le hx
  unfold laws_szIntS.f
  rw [w64 (by omega) (by omega)]
  by_cases h : (x.length : Int) ≤ left
  · rw [if_neg (by omega), if_pos h]
  · rw [if_pos (by omega), if_neg h]
theorem szSS_l (l : List (List Int)) (hl : l.length ≤ 1048576) (hx : ∀ x ∈ l, x.length ≤ maxLen) (d : Nat) : ∀ (k i : Nat) (left : Int), l.length - i = d → i ≤ l.length → d < k → 0 ≤ left → left ≤ 1048576 → ∃ r, laws_szIntSS.l0 k l left (i : Int) = some r ∧ (0 ≤ r → ∀ (j : Nat) (hj : j < l.length), i ≤ j → (l[j]).length ≤ 1048576) := by
  induction d with
  | zero =>
    intro k i left hd hi hk h0 h1
    obtain ⟨k, rfl⟩ := succ_of hk
    refine ⟨left, ?_, fun _ j hj hij => by omega⟩
    simp only [laws_szIntSS.l0, lt_f (show l.length ≤ i by omega), if_false]
  | succ d ih =>
    intro k i left hd hi hk h0 h1
    obtain ⟨k, rfl⟩ := succ_of hk
    have hlt : i < l.length := by omega
    simp only [laws_szIntSS.l0, lt_t hlt, nn_t, if_true, rdL_get l i hlt, szS_f _ (hx _ (List.getElem_mem hlt)) left h0 h1, Option.bind_some, w1 (show i ≤ 140737488355328 by omega)]
    by_cases h : ((l[i]).length : Int) ≤ left
    · rw [if_pos h, if_neg (by omega)]
      obtain ⟨r, h2, h3⟩ := ih k (i + 1) (left - ((l[i]).length : Int)) (by omega) (by omega) (by omega) (by omega) (by omega)
      refine ⟨r, h2, fun hr j hj hij => ?_⟩
      by_cases e : j = i
      · subst e; omega
      · exact h3 hr j hj (by omega)
    · rw [if_neg h]
      exact ⟨-1, by simp, fun h => by omega⟩
theorem szSS (l : List (List Int)) (hm : l.length ≤ maxLen) (hx : ∀ x ∈ l, x.length ≤ maxLen) (k : Nat) (hk : 1048577 < k) : ∃ r, laws_szIntSS.f k l 1048576 = some r ∧ (0 ≤ r → l.length ≤ 1048576 ∧ ∀ x ∈ l, x.length ≤ 1048576) := by
  have := maxLen_le hm
  unfold laws_szIntSS.f
  rw [w64 (by omega) (by omega)]
  by_cases h : (l.length : Int) ≤ 1048576
  · rw [if_neg (by omega)]
    obtain ⟨r, h1, h2⟩ := szSS_l l (by omega) hx l.length k 0 (1048576 - (l.length : Int)) (by omega) (by omega) (by omega) (by omega) (by omega)
    refine ⟨r, h1, fun hr => ⟨by omega, fun x hx => ?_⟩⟩
    obtain ⟨j, hj, rfl⟩ := List.getElem_of_mem hx
    exact h2 hr j hj (by omega)
  · rw [if_pos (by omega)]
    exact ⟨-1, rfl, fun h => by omega⟩
theorem toIntSS_l (l : List (List Int)) (hl : l.length ≤ 1048576) (hx : ∀ x ∈ l, x.length ≤ 1048576) (d : Nat) : ∀ (k : Nat) (ys : List (List Int)) (i : Nat), l.length - i = d → i ≤ l.length → ys.length = l.length → ys.take i = l.take i → d + 1048577 < k → laws_toIntSS.l0 k l ys (i : Int) = some l := by
  induction d with
  | zero =>
    intro k ys i hd hi hy ht hk
    obtain ⟨k, rfl⟩ := succ_of (show 0 < k by omega)
    simp only [laws_toIntSS.l0, lt_f (show l.length ≤ i by omega), if_false]
    have : i = l.length := by omega
    subst this
    rw [List.take_length, ← hy, List.take_length] at ht
    rw [ht]
  | succ d ih =>
    intro k ys i hd hi hy ht hk
    obtain ⟨k, rfl⟩ := succ_of (show 0 < k by omega)
    have hlt : i < l.length := by omega
    have hx1 := hx _ (List.getElem_mem hlt)
    simp only [laws_toIntSS.l0, lt_t hlt, nn_t, if_true, rdL_get l i hlt, toIntS _ (show (l[i]).length ≤ 35184372088832 by omega) k (by omega), Option.bind_some, lt_t (show i < ys.length by omega), w1 (show i ≤ 140737488355328 by omega)]
    refine ih k _ (i + 1) (by omega) (by omega) (by simp [hy]) ?_ (by omega)
    rw [Int.toNat_natCast, List.take_add_one, List.take_add_one, List.take_set_of_le (Nat.le_refl _), ht]
    simp [hy, hlt]
theorem toIntSS (l : List (List Int)) (hl : l.length ≤ 1048576) (hx : ∀ x ∈ l, x.length ≤ 1048576) (k : Nat) (hk : l.length + 1048577 < k) : laws_toIntSS.f k l = some l := by
  unfold laws_toIntSS.f
  rw [if_pos (by omega), if_pos (by omega)]
  exact toIntSS_l l hl hx l.length k _ 0 (by omega) (by omega) (by simp) rfl hk
theorem eqIntSS_self_l (l : List (List Int)) (hl : l.length ≤ 1048576) (hx : ∀ x ∈ l, x.length ≤ 1048576) (d : Nat) : ∀ (k i : Nat), l.length - i = d → i ≤ l.length → d + 1048577 < k → laws_eqIntSS.l0 k l l (i : Int) = some true := by
  induction d with
  | zero =>
    intro k i hd hi hk
    obtain ⟨k, rfl⟩ := succ_of (show 0 < k by omega)
    simp only [laws_eqIntSS.l0, lt_f (show l.length ≤ i by omega), if_false]
  | succ d ih =>
    intro k i hd hi hk
    obtain ⟨k, rfl⟩ := succ_of (show 0 < k by omega)
    have hlt : i < l.length := by omega
    have hx1 := hx _ (List.getElem_mem hlt)
    simp only [laws_eqIntSS.l0, lt_t hlt, nn_t, if_true, rdL_get l i hlt, eqIntS _ _ (show (l[i]).length ≤ 35184372088832 by omega) k (show (l[i]).length < k by omega), Option.bind_some, w1 (show i ≤ 140737488355328 by omega), decide_true]
    exact ih k (i + 1) (by omega) (by omega) (by omega)
theorem eqIntSS_self (l : List (List Int)) (hl : l.length ≤ 1048576) (hx : ∀ x ∈ l, x.length ≤ 1048576) (k : Nat) (hk : l.length + 1048577 < k) : laws_eqIntSS.f k l l = some true := by
  unfold laws_eqIntSS.f
  rw [if_pos rfl]
  exact eqIntSS_self_l l hl hx l.length k 0 (by omega) (by omega) hk

theorem wares_l (l : List (List Int)) (hl : l.length ≤ 6) (d : Nat) : ∀ (k i : Nat), l.length - i = d → i ≤ l.length → d < k → spec_WaresOk.l0 k l (l.length : Int) (i : Int) = some ((l.drop i).all wareOk) := by
  induction d with
  | zero =>
    intro k i hd hi hk
    obtain ⟨k, rfl⟩ := succ_of hk
    simp only [spec_WaresOk.l0, lt_f (show l.length ≤ i by omega), if_false, List.drop_of_length_le (show l.length ≤ i by omega), List.all_nil]
  | succ d ih =>
    intro k i hd hi hk
    obtain ⟨k, rfl⟩ := succ_of hk
    have hlt : i < l.length := by omega
    have hih := ih k (i + 1) (by omega) (by omega) (by omega)
    rw [List.drop_eq_getElem_cons hlt, List.all_cons]
    simp only [spec_WaresOk.l0, lt_t hlt, nn_t, if_true, rdL_get l i hlt, l01In_f, Option.bind_some, w1 (show i ≤ 140737488355328 by omega), hih]
    generalize (l.drop (i + 1)).all wareOk = q
    generalize l[i] = p
    unfold wareOk
    generalize rd p 0 = a
    generalize rd p 1 = b
    generalize rd p 2 = c
    by_cases h3 : p.length = 3
    · simp only [show ((p.length : Int) = 3) = True from eq_true (by omega), show (0 < (p.length : Int)) = True from eq_true (by omega), show (1 < (p.length : Int)) = True from eq_true (by omega), show (2 < (p.length : Int)) = True from eq_true (by omega), h3, if_true, true_and]
      by_cases g0 : 1 ≤ a ∧ a ≤ 16
      · by_cases g1 : 1 ≤ b ∧ b ≤ 16
        · by_cases g2 : 0 ≤ c ∧ c ≤ 1000
          · simp [g0, g1, g2]
          · simp [g0, g1, g2]
        · simp [g0, g1]
      · simp [g0]
    · have : ¬ ((p.length : Int) = 3) := by omega
      simp [this, h3]
def waresOk (l : List (List Int)) : Bool := decide (l.length ≤ 6) && l.all wareOk
theorem wares_f (l : List (List Int)) (k : Nat) (hk : 8 < k) : spec_WaresOk.f k l = some (waresOk l) := by
  unfold spec_WaresOk.f waresOk
  by_cases h6 : l.length ≤ 6
  · rw [if_neg (by omega)]
    have := wares_l l h6 l.length k 0 (by omega) (by omega) (by omega)
    rw [Int.ofNat_zero, List.drop_zero] at this
    rw [this]
    simp [h6]
  · rw [if_pos (by omega)]
    simp [h6]
theorem wares_impl (l : List (List Int)) : impl_WaresOk.f l = some (waresOk l) := rfl
theorem waresOk_facts {l : List (List Int)} (h : waresOk l = true) : l.length ≤ 6 ∧ ∀ p ∈ l, p.length = 3 ∧ (1 ≤ rd p 0 ∧ rd p 0 ≤ 16) ∧ (1 ≤ rd p 1 ∧ rd p 1 ≤ 16) ∧ (0 ≤ rd p 2 ∧ rd p 2 ≤ 1000) := by
  simp only [waresOk, Bool.and_eq_true, decide_eq_true_eq, List.all_eq_true] at h
  refine ⟨h.1, fun p hp => ?_⟩
  have := h.2 p hp
  simpa [wareOk] using this
def plateOk (w h : Int) (l : List (List Int)) : Bool := decide (1 ≤ w ∧ w ≤ 16) && (decide (1 ≤ h ∧ h ≤ 16) && waresOk l)
theorem plate_spec (w h : Int) (l : List (List Int)) (k : Nat) (hk : 8 < k) : spec_l16Ok.f k w h l = some (plateOk w h l) := by
  unfold spec_l16Ok.f plateOk
  simp only [l01In_f, Option.bind_some, wares_f l k hk]
  by_cases h1 : 1 ≤ w ∧ w ≤ 16
  · by_cases h2 : 1 ≤ h ∧ h ≤ 16
    · simp [h1, h2]
    · simp [h1, h2]
  · simp [h1]
theorem plate_impl (w h : Int) (l : List (List Int)) : impl_isPlate.f w h l = some (plateOk w h l) := by
  unfold impl_isPlate.f plateOk
  simp only [within_f, Option.bind_some, wares_impl]
  by_cases h1 : 1 ≤ w ∧ w ≤ 16
  · by_cases h2 : 1 ≤ h ∧ h ≤ 16
    · simp [h1, h2]
    · simp [h1, h2]
  · simp [h1]

def area (p : List Int) : Int := rd p 0 * rd p 1
def stepW (T : List Int) (n : Int) (x : Int) (p : List Int) : Int := if area p ≤ n then mx x (rd T (n - area p) + rd p 2) else x
def rowW (l : List (List Int)) (T : List Int) (n x : Int) : Int := l.foldl (stepW T n) x
def Ware (p : List Int) : Prop := p.length = 3 ∧ (1 ≤ rd p 0 ∧ rd p 0 ≤ 16) ∧ (1 ≤ rd p 1 ∧ rd p 1 ≤ 16) ∧ (0 ≤ rd p 2 ∧ rd p 2 ≤ 1000)
theorem area_pos {p : List Int} (h : Ware p) : 1 ≤ area p ∧ area p ≤ 256 := by
  obtain ⟨_, h1, h2, _⟩ := h
  unfold area
  constructor
  · have := Int.mul_le_mul h1.1 h2.1 (by omega) (by omega)
    omega
  · have := Int.mul_le_mul h1.2 h2.2 (by omega) (by omega)
    omega
theorem mx_l (a b : Int) : a ≤ mx a b := by unfold mx; split <;> omega
theorem mx_r (a b : Int) : b ≤ mx a b := by unfold mx; split <;> omega
theorem mx_le {a b c : Int} (h1 : a ≤ c) (h2 : b ≤ c) : mx a b ≤ c := by unfold mx; split <;> omega
theorem mx_of_le {a b : Int} (h : a ≤ b) : mx a b = b := by unfold mx; split <;> omega
theorem mx_assoc (a b c : Int) : mx (mx a b) c = mx a (mx b c) := by unfold mx; repeat' split <;> (try omega)
theorem rowW_mx (l : List (List Int)) (T : List Int) (n : Int) : ∀ a b, rowW l T n (mx a b) = mx a (rowW l T n b) := by
  induction l with
  | nil => intro a b; rfl
  | cons p r ih =>
    intro a b
    show rowW r T n (stepW T n (mx a b) p) = mx a (rowW r T n (stepW T n b p))
    have : stepW T n (mx a b) p = mx a (stepW T n b p) := by
      unfold stepW
      split
      · rw [mx_assoc]
      · rfl
    rw [this, ih]
theorem rowW_ge (l : List (List Int)) (T : List Int) (n : Int) : ∀ a, a ≤ rowW l T n a := by
  induction l with
  | nil => intro a; exact Int.le_refl _
  | cons p r ih =>
    intro a
    refine Int.le_trans ?_ (ih (stepW T n a p))
    unfold stepW
    split
    · exact mx_l _ _
    · exact Int.le_refl _
/-- Only what lies before place n is read. -/
theorem rowW_same (l : List (List Int)) (hl : ∀ p ∈ l, Ware p) (T T' : List Int) (n : Int) (h : ∀ j : Int, 0 ≤ j → j < n → rd T j = rd T' j) : ∀ a, rowW l T n a = rowW l T' n a := by
  induction l with
  | nil => intro a; rfl
  | cons p r ih =>
    intro a
    have hp := area_pos (hl p (by simp))
    show rowW r T n (stepW T n a p) = rowW r T' n (stepW T' n a p)
    have : stepW T n a p = stepW T' n a p := by
      unfold stepW
      split
      · rw [h _ (by omega) (by omega)]
      · rfl
    rw [this]
    exact ih (fun q hq => hl q (by simp [hq])) _
theorem rowW_bound (l : List (List Int)) (hl : ∀ p ∈ l, Ware p) (T : List Int) (n : Int) (h : ∀ j : Int, 0 ≤ j → j < n → 0 ≤ rd T j ∧ rd T j ≤ 1000 * j) : ∀ a, 0 ≤ a → a ≤ 1000 * n → 0 ≤ rowW l T n a ∧ rowW l T n a ≤ 1000 * n := by
  induction l with
  | nil => intro a h0 h1; exact ⟨h0, h1⟩
  | cons p r ih =>
    intro a h0 h1
    have hp := area_pos (hl p (by simp))
    have hv := (hl p (by simp)).2.2.2
    show 0 ≤ rowW r T n (stepW T n a p) ∧ rowW r T n (stepW T n a p) ≤ 1000 * n
    refine ih (fun q hq => hl q (by simp [hq])) _ ?_ ?_
    · unfold stepW
      split
      · exact Int.le_trans h0 (mx_l _ _)
      · exact h0
    · unfold stepW
      split
      · have := h (n - area p) (by omega) (by omega)
        exact mx_le h1 (by omega)
      · exact h1
theorem rowW_mono (l : List (List Int)) (hl : ∀ p ∈ l, Ware p) (T : List Int) (n : Int) (h : ∀ j : Int, 0 ≤ j → j + 1 < n → rd T j ≤ rd T (j + 1)) : ∀ a b, a ≤ b → rowW l T (n - 1) a ≤ rowW l T n b := by
  induction l with
  | nil => intro a b hab; exact hab
  | cons p r ih =>
    intro a b hab
    have hp := area_pos (hl p (by simp))
    show rowW r T (n - 1) (stepW T (n - 1) a p) ≤ rowW r T n (stepW T n b p)
    refine ih (fun q hq => hl q (by simp [hq])) _ _ ?_
    unfold stepW
    by_cases g : area p ≤ n - 1
    · rw [if_pos g, if_pos (by omega)]
      have := h (n - 1 - area p) (by omega) (by omega)
      rw [show n - 1 - area p + 1 = n - area p by omega] at this
      exact mx_le (Int.le_trans hab (mx_l _ _)) (Int.le_trans (by omega) (mx_r _ _))
    · rw [if_neg g]
      split
      · exact Int.le_trans hab (mx_l _ _)
      · exact hab
/-- The table up to place n. -/
structure Good (l : List (List Int)) (S : List Int) : Prop where
  bound : ∀ j : Int, 0 ≤ j → j < (S.length : Int) → 0 ≤ rd S j ∧ rd S j ≤ 1000 * j
  rows : ∀ j : Int, 0 ≤ j → j < (S.length : Int) → rd S j = rowW l S j 0
  mono : ∀ j : Int, 0 ≤ j → j + 1 < (S.length : Int) → rd S j ≤ rd S (j + 1)
theorem rd_app_l {S R : List Int} {j : Int} (h0 : 0 ≤ j) (h1 : j < (S.length : Int)) : rd (S ++ R) j = rd S j := by
  obtain ⟨m, rfl⟩ := Int.eq_ofNat_of_zero_le h0
  rw [rd_get _ _ (by rw [List.length_append]; omega), rd_get _ _ (by omega), List.getElem_append_left (by omega)]
theorem rd_app_r {S : List Int} {x : Int} {R : List Int} : rd (S ++ x :: R) (S.length : Int) = x := by
  rw [rd_get _ _ (by rw [List.length_append]; simp)]
  simp
theorem good_next {l : List (List Int)} (hl : ∀ p ∈ l, Ware p) {S : List Int} (g : Good l S) (h1 : 1 ≤ S.length) : rowW l S (S.length : Int) (rd S ((S.length : Int) - 1)) = rowW l S (S.length : Int) 0 ∧ Good l (S ++ [rowW l S (S.length : Int) 0]) := by
  have hb := g.bound ((S.length : Int) - 1) (by omega) (by omega)
  have hr := g.rows ((S.length : Int) - 1) (by omega) (by omega)
  have hm := rowW_mono l hl S (S.length : Int) g.mono 0 0 (Int.le_refl _)
  rw [← hr] at hm
  have hbn := rowW_bound l hl S (S.length : Int) g.bound 0 (Int.le_refl _) (by omega)
  have e : rowW l S (S.length : Int) (rd S ((S.length : Int) - 1)) = rowW l S (S.length : Int) 0 := by
    have : rd S ((S.length : Int) - 1) = mx (rd S ((S.length : Int) - 1)) 0 := by unfold mx; split <;> omega
    rw [this, rowW_mx, mx_of_le hm]
  refine ⟨e, ?_⟩
  generalize hz : rowW l S (S.length : Int) 0 = z at *
  have cases_ : ∀ j : Int, 0 ≤ j → j < ((S ++ [z]).length : Int) → j < (S.length : Int) ∨ j = (S.length : Int) := by
    intro j _ h
    rw [List.length_append] at h
    simp at h
    omega
  have same : ∀ n : Int, n ≤ (S.length : Int) → ∀ a, rowW l (S ++ [z]) n a = rowW l S n a := fun n hn a => rowW_same l hl _ _ n (fun j j0 j1 => rd_app_l j0 (by omega)) a
  refine ⟨fun j h0 h => ?_, fun j h0 h => ?_, fun j h0 h => ?_⟩
  · rcases cases_ j h0 h with hj | hj
    · rw [rd_app_l h0 hj]; exact g.bound j h0 hj
    · subst hj; rw [rd_app_r]; exact hbn
  · rcases cases_ j h0 h with hj | hj
    · rw [rd_app_l h0 hj, same j (by omega)]; exact g.rows j h0 hj
    · subst hj; rw [rd_app_r, same _ (Int.le_refl _), hz]
  · rcases cases_ (j + 1) (by omega) h with hj | hj
    · rw [rd_app_l h0 (by omega), rd_app_l (by omega) hj]; exact g.mono j h0 hj
    · rw [hj, rd_app_r, rd_app_l h0 (by omega), show j = (S.length : Int) - 1 by omega]; exact hm
theorem spec_row (w h : Int) (l : List (List Int)) (hl : ∀ p ∈ l, Ware p) (hl6 : l.length ≤ 6) (S : List Int) (n : Nat) (hn : n = S.length) (hn2 : n ≤ 256) (hb : ∀ j : Int, 0 ≤ j → j < (S.length : Int) → 0 ≤ rd S j ∧ rd S j ≤ 1000 * j) (d : Nat) : ∀ (m i : Nat) (x : Int), l.length - i = d → i ≤ l.length → spec_AreaBound.l1 (d + 1 + m) w h l S (n : Int) x l (l.length : Int) (i : Int) = spec_AreaBound.l0 m w h l (S ++ [rowW (l.drop i) S (n : Int) x]) ((n + 1 : Nat) : Int) := by
  induction d with
  | zero =>
    intro m i x hd hi
    rw [show 0 + 1 + m = m + 1 by omega]
    simp only [spec_AreaBound.l1, lt_f (show l.length ≤ i by omega), if_false, List.drop_of_length_le (show l.length ≤ i by omega), show (S.length < 17592186044416) = True from eq_true (by omega), if_true, w1 (show n ≤ 140737488355328 by omega)]
    rfl
  | succ d ih =>
    intro m i x hd hi
    have hlt : i < l.length := by omega
    have hp := hl _ (List.getElem_mem hlt)
    have ha := area_pos hp
    have hp3 := hp.1
    have hv := hp.2.2.2
    rw [show d + 1 + 1 + m = (d + 1 + m) + 1 by omega, List.drop_eq_getElem_cons hlt]
    have hrow : rowW (l[i] :: l.drop (i + 1)) S (n : Int) x = rowW (l.drop (i + 1)) S (n : Int) (stepW S (n : Int) x l[i]) := rfl
    rw [hrow, ← ih m (i + 1) _ (by omega) (by omega)]
    simp only [spec_AreaBound.l1, lt_t hlt, nn_t, if_true, rdL_get l i hlt, w1 (show i ≤ 140737488355328 by omega), show (0 < ((l[i]).length : Int)) = True from eq_true (by omega), show (1 < ((l[i]).length : Int)) = True from eq_true (by omega), show (2 < ((l[i]).length : Int)) = True from eq_true (by omega), stepW]
    have ea : wrap64 (rd l[i] 0 * rd l[i] 1) = area l[i] := w64 (show -9223372036854775808 ≤ area l[i] by omega) (show area l[i] ≤ 9223372036854775807 by omega)
    rw [ea]
    by_cases g : area l[i] ≤ (n : Int)
    · have e2 : wrap64 ((n : Int) - area l[i]) = (n : Int) - area l[i] := w64 (by omega) (by omega)
      have hr := hb ((n : Int) - area l[i]) (by omega) (by omega)
      rw [if_pos g, if_pos g, e2, if_pos (by omega), if_pos (by omega), w64 (by omega) (by omega)]
    · rw [if_neg g, if_neg g]
theorem set_set_same (T : List Int) (n : Nat) (a b : Int) : (T.set n a).set n b = T.set n b := by simp
theorem impl_row (w h : Int) (l : List (List Int)) (hl : ∀ p ∈ l, Ware p) (hl6 : l.length ≤ 6) (N : Int) (n : Nat) (hn2 : n ≤ 256) (d : Nat) : ∀ (m i : Nat) (T : List Int), n < T.length → (∀ j : Int, 0 ≤ j → j < (n : Int) → 0 ≤ rd T j ∧ rd T j ≤ 1000 * j) → l.length - i = d → i ≤ l.length → impl_AreaBound.l1 (d + 1 + m) w h l T (n : Int) N (n : Int) l (l.length : Int) (i : Int) = impl_AreaBound.l0 m w h l (T.set n (rowW (l.drop i) T (n : Int) (rd T (n : Int)))) N ((n + 1 : Nat) : Int) := by
  induction d with
  | zero =>
    intro m i T hT hb hd hi
    rw [show 0 + 1 + m = m + 1 by omega]
    simp only [impl_AreaBound.l1, lt_f (show l.length ≤ i by omega), if_false, List.drop_of_length_le (show l.length ≤ i by omega), w1 (show n ≤ 140737488355328 by omega)]
    congr 1
    show T = T.set n (rd T (n : Int))
    rw [rd_get T n hT, List.set_getElem_self]
  | succ d ih =>
    intro m i T hT hb hd hi
    have hlt : i < l.length := by omega
    have hp := hl _ (List.getElem_mem hlt)
    have ha := area_pos hp
    have hp3 := hp.1
    have hv := hp.2.2.2
    rw [show d + 1 + 1 + m = (d + 1 + m) + 1 by omega, List.drop_eq_getElem_cons hlt]
    have hrow : rowW (l[i] :: l.drop (i + 1)) T (n : Int) (rd T (n : Int)) = rowW (l.drop (i + 1)) T (n : Int) (stepW T (n : Int) (rd T (n : Int)) l[i]) := rfl
    rw [hrow]
    simp only [impl_AreaBound.l1, lt_t hlt, nn_t, if_true, rdL_get l i hlt, w1 (show i ≤ 140737488355328 by omega), show (0 < ((l[i]).length : Int)) = True from eq_true (by omega), show (1 < ((l[i]).length : Int)) = True from eq_true (by omega), show (2 < ((l[i]).length : Int)) = True from eq_true (by omega), stepW, lt_t hT]
    have ea : wrap64 (rd l[i] 0 * rd l[i] 1) = area l[i] := w64 (show -9223372036854775808 ≤ area l[i] by omega) (show area l[i] ≤ 9223372036854775807 by omega)
    rw [ea]
    by_cases g : area l[i] ≤ (n : Int)
    · have e2 : wrap64 ((n : Int) - area l[i]) = (n : Int) - area l[i] := w64 (by omega) (by omega)
      have hr := hb ((n : Int) - area l[i]) (by omega) (by omega)
      rw [if_pos g, if_pos g, e2, if_pos (by omega), if_pos (by omega), w64 (by omega) (by omega), Int.toNat_natCast]
      generalize mx (rd T (n : Int)) (rd T ((n : Int) - area l[i]) + rd l[i] 2) = y
      have same : ∀ j : Int, 0 ≤ j → j < (n : Int) → rd (T.set n y) j = rd T j := by
        intro j h0 h1
        obtain ⟨q, rfl⟩ := Int.eq_ofNat_of_zero_le h0
        rw [rd_get _ _ (by rw [List.length_set]; omega), rd_get _ _ (by omega), List.getElem_set_ne (by omega)]
      rw [ih m (i + 1) (T.set n y) (by rw [List.length_set]; exact hT) (fun j h0 h1 => by rw [same j h0 h1]; exact hb j h0 h1) (by omega) (by omega)]
      rw [set_set_same, rowW_same _ (fun p hp => hl p (List.mem_of_mem_drop hp)) (T.set n y) T (n : Int) same]
      congr 2
      rw [rd_get _ _ (by rw [List.length_set]; exact hT), List.getElem_set_self]
    · rw [if_neg g, if_neg g]
      exact ih m (i + 1) T hT hb (by omega) (by omega)
theorem tables (w h : Int) (hw : 1 ≤ w ∧ w ≤ 16) (hh : 1 ≤ h ∧ h ≤ 16) (N : Nat) (hN : (N : Int) = w * h) (hN2 : N ≤ 256) (l : List (List Int)) (hl : ∀ p ∈ l, Ware p) (hl6 : l.length ≤ 6) (d : Nat) : ∀ (S : List Int), 1 ≤ S.length → N + 1 - S.length = d → S.length ≤ N + 1 → Good l S → ∀ m, ∃ r, spec_AreaBound.l0 (d * 10 + 1 + m) w h l S (S.length : Int) = some r ∧ impl_AreaBound.l0 (d * 10 + 1 + m) w h l (S ++ List.replicate d 0) ((N + 1 : Nat) : Int) (S.length : Int) = some r := by
  have ewh : wrap64 (w * h) = (N : Int) := by rw [← hN]; exact w64n N (by omega)
  induction d with
  | zero =>
    intro S h1 hd hS g m
    rw [show 0 * 10 + 1 + m = m + 1 by omega]
    have hSN : S.length = N + 1 := by omega
    simp only [spec_AreaBound.l0, impl_AreaBound.l0, ewh, hSN, List.replicate_zero, List.append_nil]
    simp only [show (((N + 1 : Nat) : Int) ≤ (N : Int)) = False from eq_false (by omega), show (((N + 1 : Nat) : Int) < ((N + 1 : Nat) : Int)) = False from eq_false (by omega), nn_t, lt_t (Nat.lt_succ_self N), if_true, if_false]
    exact ⟨_, rfl, rfl⟩
  | succ d ih =>
    intro S h1 hd hS g m
    have hlen : S.length ≤ N := by omega
    obtain ⟨e, g2⟩ := good_next hl g h1
    have hr1 : (S ++ [rowW l S (S.length : Int) 0]).length = S.length + 1 := by simp
    obtain ⟨r, r1, r2⟩ := ih (S ++ [rowW l S (S.length : Int) 0]) (by omega) (by omega) (by omega) g2 (m + (8 - l.length))
    rw [hr1] at r1 r2
    refine ⟨r, ?_, ?_⟩
    · rw [show (d + 1) * 10 + 1 + m = (l.length + 1 + (d * 10 + 1 + (m + (8 - l.length)))) + 1 by omega]
      simp only [spec_AreaBound.l0, ewh]
      have e1 : wrap64 ((S.length : Int) - 1) = (S.length : Int) - 1 := w64 (by omega) (by omega)
      rw [if_pos (by omega), e1, if_pos (by omega), if_pos (by omega)]
      have := spec_row w h l hl hl6 S S.length rfl (by omega) g.bound l.length (d * 10 + 1 + (m + (8 - l.length))) 0 (rd S ((S.length : Int) - 1)) (by omega) (by omega)
      rw [Int.ofNat_zero, List.drop_zero, e] at this
      rw [this, r1]
    · rw [show (d + 1) * 10 + 1 + m = (l.length + 1 + (d * 10 + 1 + (m + (8 - l.length)))) + 1 by omega]
      simp only [impl_AreaBound.l0]
      rw [if_pos (by omega)]
      have hTl : (S ++ List.replicate (d + 1) (0 : Int)).length = S.length + (d + 1) := by simp
      have hTb : ∀ j : Int, 0 ≤ j → j < (S.length : Int) → rd (S ++ List.replicate (d + 1) (0 : Int)) j = rd S j := fun j h0 h1 => rd_app_l h0 h1
      have := impl_row w h l hl hl6 ((N + 1 : Nat) : Int) S.length (by omega) l.length (d * 10 + 1 + (m + (8 - l.length))) 0 (S ++ List.replicate (d + 1) 0) (by omega) (fun j h0 h1 => by rw [hTb j h0 h1]; exact g.bound j h0 h1) (by omega) (by omega)
      rw [Int.ofNat_zero, List.drop_zero, rowW_same l hl _ S (S.length : Int) hTb] at this
      have e0 : rd (S ++ List.replicate (d + 1) (0 : Int)) (S.length : Int) = 0 := by rw [List.replicate_succ, rd_app_r]
      rw [e0] at this
      have e1 : (S ++ List.replicate (d + 1) (0 : Int)).set S.length (rowW l S (S.length : Int) 0) = (S ++ [rowW l S (S.length : Int) 0]) ++ List.replicate d 0 := by
        rw [List.set_append_right _ _ (Nat.le_refl _), List.replicate_succ]
        simp
      rw [e1] at this
      rw [this, r2]
theorem spec_more (w h : Int) (l : List (List Int)) (S : List Int) (n r : Int) (k m : Nat) (h1 : spec_AreaBound.l0 k w h l S n = some r) : spec_AreaBound.l0 (k + m) w h l S n = some r := by
  induction m with
  | zero => exact h1
  | succ m ih => exact (spec_AreaBound.mono_l (k + m)).1 _ _ _ _ _ _ ih
theorem row_zero (l : List (List Int)) (hl : ∀ p ∈ l, Ware p) (T : List Int) (a : Int) : rowW l T 0 a = a := by
  induction l with
  | nil => rfl
  | cons p r ih =>
    have ha := area_pos (hl p (by simp))
    show rowW r T 0 (stepW T 0 a p) = a
    unfold stepW
    rw [if_neg (by omega)]
    exact ih (fun x hx => hl x (by simp [hx]))
theorem area_both (w h : Int) (l : List (List Int)) : ∃ r, spec_AreaBound.f 2097160 w h l = some r ∧ impl_AreaBound.f 2097160 w h l = some r := by
  unfold spec_AreaBound.f impl_AreaBound.f
  rw [plate_spec w h l 2097160 (by omega), plate_impl w h l]
  simp only [Option.bind_some]
  by_cases hp : plateOk w h l = true
  · have hp' := hp
    simp only [plateOk, Bool.and_eq_true, decide_eq_true_eq] at hp'
    obtain ⟨h1, h2, h3⟩ := hp'
    obtain ⟨h4, h5⟩ := waresOk_facts h3
    have b1 : 1 ≤ w * h := by have := Int.mul_le_mul h1.1 h2.1 (by omega) (by omega); omega
    have b2 : w * h ≤ 256 := by have := Int.mul_le_mul h1.2 h2.2 (by omega) (by omega); omega
    obtain ⟨N, hN⟩ := Int.eq_ofNat_of_zero_le (show 0 ≤ w * h by omega)
    have hN2 : N ≤ 256 := by omega
    have g0 : Good l [0] := by
      refine ⟨fun j h0 h => ?_, fun j h0 h => ?_, fun j h0 h => ?_⟩
      · simp at h
        obtain rfl : j = 0 := by omega
        simp [rd]
      · simp at h
        obtain rfl : j = 0 := by omega
        rw [row_zero l h5]
        simp [rd]
      · simp at h
        omega
    obtain ⟨r, r1, r2⟩ := tables w h h1 h2 N (by omega) hN2 l h5 h4 N [0] (by simp) (by simp) (by simp) g0 (2097157 - l.length - N * 10)
    have r1' : spec_AreaBound.l0 2097160 w h l [0] 1 = some r := by
      have e : 2097160 = (N * 10 + 1 + (2097157 - l.length - N * 10)) + (l.length + 2) := by omega
      rw [e]
      exact spec_more w h l [0] 1 r _ (l.length + 2) r1
    have r2' : impl_AreaBound.l0 2097160 w h l (List.replicate (N + 1) 0) ((N + 1 : Nat) : Int) 0 = some r := by
      rw [show 2097160 = (l.length + 1 + (N * 10 + 1 + (2097157 - l.length - N * 10))) + 1 by omega]
      simp only [impl_AreaBound.l0]
      rw [if_pos (by omega)]
      have := impl_row w h l h5 h4 ((N + 1 : Nat) : Int) 0 (by omega) l.length (N * 10 + 1 + (2097157 - l.length - N * 10)) 0 (List.replicate (N + 1) 0) (by simp) (fun j j0 j1 => by omega) (by omega) (by omega)
      rw [List.drop_zero, Int.ofNat_zero, row_zero l h5] at this
      rw [this]
      have e0 : (List.replicate (N + 1) (0 : Int)).set 0 (rd (List.replicate (N + 1) (0 : Int)) 0) = [0] ++ List.replicate N 0 := by simp [List.replicate_succ, rd]
      rw [e0]
      exact r2
    refine ⟨r, ?_, ?_⟩
    · rw [if_pos hp]
      exact r1'
    · rw [if_pos hp, hN]
      have e1 : wrap64 ((N : Nat) : Int) = (N : Int) := w64n N (by omega)
      have e2 : wrap64 ((N : Int) + 1) = ((N + 1 : Nat) : Int) := w1 (by omega)
      simp only [e1, e2]
      rw [if_pos (by omega), if_pos (by omega)]
      simp only [Option.bind_some, Int.toNat_natCast, List.length_replicate]
      exact r2'
  · rw [if_neg hp, if_neg hp]
    exact ⟨-1, rfl, rfl⟩
theorem FnExactAreaBound : laws_FnExactAreaBound.Pure := by
  intro w h l _ _ hm _ hw
  obtain ⟨r, h1, h2⟩ := szSS l hm (fun x hx => (hw x hx).1) (2097160) (by omega)
  refine ⟨2097160, ?_⟩
  unfold laws_FnExactAreaBound.f
  rw [h1]
  simp only [Option.bind_some]
  by_cases hr : r < 0
  · rw [if_pos hr]
  · obtain ⟨h3, h4⟩ := h2 (by omega)
    obtain ⟨q, q1, q2⟩ := area_both w h l
    rw [if_neg hr, toIntSS l h3 h4 _ (by omega)]
    simp only [Option.bind_some, q1, q2, eqIntSS_self l h3 h4 2097160 (by omega)]
    simp

end Go.Proofs.Ytcmmammefghjdaa.Pure
