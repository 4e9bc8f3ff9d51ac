/- WareCounts: both texts count the letters of the wares in a plan. -/
import Derived.Test.YtmokeeakgacadaaXFnExactWareCountsx4
namespace Go.Proofs.Ytmokeeakgacadaa.Pure
open Go.RowKit Go.Proofs.Ytmokeeakgacadaa.XFnExactWareCounts Go.Proofs.YtmokeeakgacadaaW.PrintWords Go.Proofs.YtmokeeakgacadaaW.PrintLast
set_option linter.unusedVariables false
set_option linter.unusedSimpArgs false
theorem wf64 {x : Int} (h : (Lit.int .i64 x).wf = true) : -9223372036854775808 ≤ x ∧ x ≤ 9223372036854775807 := by
  simp only [Lit.wf, IntKind.min, IntKind.max, IntKind.signed, IntKind.bits, Bool.and_eq_true, decide_eq_true_eq, if_true] at h
  omega
theorem w64 {x : Int} (h0 : -9223372036854775808 ≤ x) (h1 : x ≤ 9223372036854775807) : wrap64 x = x := by
  unfold wrap64
  omega
theorem succ_of {d k : Nat} (h : d < k) : ∃ m, k = m + 1 := ⟨k - 1, by omega⟩
theorem rd_nat (l : List Int) (i : Nat) : rd l (i : Int) = l.getD i 0 := by simp [rd]
theorem rd_get (l : List Int) (i : Nat) (h : i < l.length) : rd l (i : Int) = l[i] := by simp [rd, List.getD_eq_getElem?_getD, h]
theorem w1 {i : Nat} (h : i ≤ 140737488355328) : wrap64 ((i : Int) + 1) = ((i + 1 : Nat) : Int) := by
  unfold wrap64
  omega
theorem lt_t {i n : Nat} (h : i < n) : ((i : Int) < (n : Int)) = True := eq_true (by omega)
theorem lt_f {i n : Nat} (h : n ≤ i) : ((i : Int) < (n : Int)) = False := eq_false (by omega)
theorem nn_t (i : Nat) : (0 ≤ (i : Int)) = True := eq_true (by omega)
theorem w64n (n : Nat) (h : n ≤ 9223372036854775807) : wrap64 (n : Int) = (n : Int) := w64 (by omega) (by omega)
theorem w64sub (a b c : Nat) (ha : a ≤ 9223372036854775807) (h : a = b + c) : wrap64 ((a : Int) - (b : Int)) = (c : Int) := by
  rw [w64 (by omega) (by omega)]
  omega

theorem toIntS_l (l : List Int) (hl : l.length ≤ 35184372088832) (d : Nat) : ∀ (k : Nat) (ys : List Int) (i : Nat), l.length - i = d → i ≤ l.length → ys.length = l.length → ys.take i = l.take i → d < k → laws_toIntS.l0 k l ys (i : Int) = some l := by
  induction d with
  | zero =>
    intro k ys i hd hi hy ht hk
    obtain ⟨k, rfl⟩ := succ_of hk
    simp only [laws_toIntS.l0]
    rw [if_neg (by omega)]
    have : i = l.length := by omega
    subst this
    rw [List.take_length, ← hy, List.take_length] at ht
    rw [ht]
  | succ d ih =>
    intro k ys i hd hi hy ht hk
    obtain ⟨k, rfl⟩ := succ_of hk
    simp only [laws_toIntS.l0]
    rw [if_pos (by omega), if_pos (by omega), if_pos (by omega), w1 (by omega), rd_get l i (by omega)]
    refine ih k _ (i + 1) (by omega) (by omega) (by simp [hy]) ?_ (by omega)
    rw [Int.toNat_natCast, List.take_add_one, List.take_add_one, List.take_set_of_le (Nat.le_refl _), ht]
    simp [hy, show i < l.length by omega]
theorem toIntS (l : List Int) (hl : l.length ≤ 35184372088832) (k : Nat) (hk : l.length < k) : laws_toIntS.f k l = some l := by
  unfold laws_toIntS.f
  rw [if_pos (by omega), if_pos (by omega)]
  exact toIntS_l l hl l.length k _ 0 (by omega) (by omega) (by simp) rfl hk
theorem eqIntS_l (l m : List Int) (hl : l.length ≤ 35184372088832) (he : l.length = m.length) (d : Nat) : ∀ (k : Nat) (i : Nat), l.length - i = d → i ≤ l.length → d < k → laws_eqIntS.l0 k l m (i : Int) = some (decide (l.drop i = m.drop i)) := by
  induction d with
  | zero =>
    intro k i hd hi hk
    obtain ⟨k, rfl⟩ := succ_of hk
    simp only [laws_eqIntS.l0]
    rw [if_neg (by omega), List.drop_of_length_le (by omega), List.drop_of_length_le (by omega)]
    simp
  | succ d ih =>
    intro k i hd hi hk
    obtain ⟨k, rfl⟩ := succ_of hk
    simp only [laws_eqIntS.l0]
    rw [if_pos (by omega), if_pos (by omega), if_pos (by omega), w1 (by omega), rd_get l i (by omega), rd_get m i (by omega), ih k (i + 1) (by omega) (by omega) (by omega)]
    have h1 := List.drop_eq_getElem_cons (show i < l.length by omega)
    have h2 := List.drop_eq_getElem_cons (show i < m.length by omega)
    by_cases e : l[i]'(by omega) = m[i]'(by omega)
    · rw [if_pos e, h1, h2]
      simp only [List.cons.injEq, e, true_and]
    · rw [if_neg e, h1, h2]
      simp only [List.cons.injEq, e, false_and, decide_false]
theorem eqIntS (l m : List Int) (hl : l.length ≤ 35184372088832) (k : Nat) (hk : l.length < k) : laws_eqIntS.f k l m = some (decide (l = m)) := by
  unfold laws_eqIntS.f
  by_cases e : l.length = m.length
  · rw [if_pos (by omega)]
    have := eqIntS_l l m hl e l.length k 0 (by omega) (by omega) hk
    simpa using this
  · rw [if_neg (by omega)]
    have : l ≠ m := fun h => e (by rw [h])
    simp [this]

theorem within_f (a b c : Int) : impl_within.f a b c = some (decide (b ≤ a ∧ a ≤ c)) := by
  unfold impl_within.f
  by_cases h : a ≥ b
  · rw [if_pos h]; simp [show b ≤ a from h]
  · rw [if_neg h]; simp [show ¬ b ≤ a from h]
theorem l01In_f (a b c : Int) : spec_l01In.f a b c = some (decide (b ≤ a ∧ a ≤ c)) := by
  unfold spec_l01In.f
  by_cases h : a ≥ b
  · rw [if_pos h]; simp [show b ≤ a from h]
  · rw [if_neg h]; simp [show ¬ b ≤ a from h]

theorem rdL_get (l : List (List Int)) (i : Nat) (h : i < l.length) : rd_L1 l (i : Int) = l[i] := by simp [rd_L1, List.getD_eq_getElem?_getD, h]
theorem maxLen_le {n : Nat} (h : n ≤ maxLen) : n ≤ 9223372036854775807 := by unfold maxLen at h; exact h
theorem szS_f (x : List Int) (hx : x.length ≤ maxLen) (left : Int) (h0 : 0 ≤ left) (h1 : left ≤ 1048576) : laws_szIntS.f x left = some (if (x.length : Int) ≤ left then left - (x.length : Int) else -1) := by
  have := maxLen_le hx
  unfold laws_szIntS.f
  rw [w64 (by omega) (by omega)]
  by_cases h : (x.length : Int) ≤ left
  · rw [if_neg (by omega), if_pos h]
  · rw [if_pos (by omega), if_neg h]
theorem szSS_l (l : List (List Int)) (hl : l.length ≤ 1048576) (hx : ∀ x ∈ l, x.length ≤ maxLen) (d : Nat) : ∀ (k i : Nat) (left : Int), l.length - i = d → i ≤ l.length → d < k → 0 ≤ left → left ≤ 1048576 → ∃ r, laws_szIntSS.l0 k l left (i : Int) = some r ∧ (0 ≤ r → ∀ (j : Nat) (hj : j < l.length), i ≤ j → (l[j]).length ≤ 1048576) := by
  induction d with
  | zero =>
    intro k i left hd hi hk h0 h1
    obtain ⟨k, rfl⟩ := succ_of hk
    refine ⟨left, ?_, fun _ j hj hij => by omega⟩
    simp only [laws_szIntSS.l0, lt_f (show l.length ≤ i by omega), if_false]
  | succ d ih =>
    intro k i left hd hi hk h0 h1
    obtain ⟨k, rfl⟩ := succ_of hk
    have hlt : i < l.length := by omega
    simp only [laws_szIntSS.l0, lt_t hlt, nn_t, if_true, rdL_get l i hlt, szS_f _ (hx _ (List.getElem_mem hlt)) left h0 h1, Option.bind_some, w1 (show i ≤ 140737488355328 by omega)]
    by_cases h : ((l[i]).length : Int) ≤ left
    · rw [if_pos h, if_neg (by omega)]
      obtain ⟨r, h2, h3⟩ := ih k (i + 1) (left - ((l[i]).length : Int)) (by omega) (by omega) (by omega) (by omega) (by omega)
      refine ⟨r, h2, fun hr j hj hij => ?_⟩
      by_cases e : j = i
      · subst e; omega
      · exact h3 hr j hj (by omega)
    · rw [if_neg h]
      exact ⟨-1, by simp, fun h => by omega⟩
theorem szSS (l : List (List Int)) (hm : l.length ≤ maxLen) (hx : ∀ x ∈ l, x.length ≤ maxLen) (k : Nat) (hk : 1048577 < k) : ∃ r, laws_szIntSS.f k l 1048576 = some r ∧ (0 ≤ r → l.length ≤ 1048576 ∧ ∀ x ∈ l, x.length ≤ 1048576) := by
  have := maxLen_le hm
  unfold laws_szIntSS.f
  rw [w64 (by omega) (by omega)]
  by_cases h : (l.length : Int) ≤ 1048576
  · rw [if_neg (by omega)]
    obtain ⟨r, h1, h2⟩ := szSS_l l (by omega) hx l.length k 0 (1048576 - (l.length : Int)) (by omega) (by omega) (by omega) (by omega) (by omega)
    refine ⟨r, h1, fun hr => ⟨by omega, fun x hx => ?_⟩⟩
    obtain ⟨j, hj, rfl⟩ := List.getElem_of_mem hx
    exact h2 hr j hj (by omega)
  · rw [if_pos (by omega)]
    exact ⟨-1, rfl, fun h => by omega⟩
theorem toIntSS_l (l : List (List Int)) (hl : l.length ≤ 1048576) (hx : ∀ x ∈ l, x.length ≤ 1048576) (d : Nat) : ∀ (k : Nat) (ys : List (List Int)) (i : Nat), l.length - i = d → i ≤ l.length → ys.length = l.length → ys.take i = l.take i → d + 1048577 < k → laws_toIntSS.l0 k l ys (i : Int) = some l := by
  induction d with
  | zero =>
    intro k ys i hd hi hy ht hk
    obtain ⟨k, rfl⟩ := succ_of (show 0 < k by omega)
    simp only [laws_toIntSS.l0, lt_f (show l.length ≤ i by omega), if_false]
    have : i = l.length := by omega
    subst this
    rw [List.take_length, ← hy, List.take_length] at ht
    rw [ht]
  | succ d ih =>
    intro k ys i hd hi hy ht hk
    obtain ⟨k, rfl⟩ := succ_of (show 0 < k by omega)
    have hlt : i < l.length := by omega
    have hx1 := hx _ (List.getElem_mem hlt)
    simp only [laws_toIntSS.l0, lt_t hlt, nn_t, if_true, rdL_get l i hlt, toIntS _ (show (l[i]).length ≤ 35184372088832 by omega) k (by omega), Option.bind_some, lt_t (show i < ys.length by omega), w1 (show i ≤ 140737488355328 by omega)]
    refine ih k _ (i + 1) (by omega) (by omega) (by simp [hy]) ?_ (by omega)
    rw [Int.toNat_natCast, List.take_add_one, List.take_add_one, List.take_set_of_le (Nat.le_refl _), ht]
    simp [hy, hlt]
theorem toIntSS (l : List (List Int)) (hl : l.length ≤ 1048576) (hx : ∀ x ∈ l, x.length ≤ 1048576) (k : Nat) (hk : l.length + 1048577 < k) : laws_toIntSS.f k l = some l := by
  unfold laws_toIntSS.f
  rw [if_pos (by omega), if_pos (by omega)]
  exact toIntSS_l l hl hx l.length k _ 0 (by omega) (by omega) (by simp) rfl hk
theorem eqIntSS_self_l (l : List (List Int)) (hl : l.length ≤ 1048576) (hx : ∀ x ∈ l, x.length ≤ 1048576) (d : Nat) : ∀ (k i : Nat), l.length - i = d → i ≤ l.length → d + 1048577 < k → laws_eqIntSS.l0 k l l (i : Int) = some true := by
  induction d with
  | zero =>
    intro k i hd hi hk
    obtain ⟨k, rfl⟩ := succ_of (show 0 < k by omega)
    simp only [laws_eqIntSS.l0, lt_f (show l.length ≤ i by omega), if_false]
  | succ d ih =>
    intro k i hd hi hk
    obtain ⟨k, rfl⟩ := succ_of (show 0 < k by omega)
    have hlt : i < l.length := by omega
    have hx1 := hx _ (List.getElem_mem hlt)
    simp only [laws_eqIntSS.l0, lt_t hlt, nn_t, if_true, rdL_get l i hlt, eqIntS _ _ (show (l[i]).length ≤ 35184372088832 by omega) k (show (l[i]).length < k by omega), Option.bind_some, w1 (show i ≤ 140737488355328 by omega), decide_true]
    exact ih k (i + 1) (by omega) (by omega) (by omega)
theorem eqIntSS_self (l : List (List Int)) (hl : l.length ≤ 1048576) (hx : ∀ x ∈ l, x.length ≤ 1048576) (k : Nat) (hk : l.length + 1048577 < k) : laws_eqIntSS.f k l l = some true := by
  unfold laws_eqIntSS.f
  rw [if_pos rfl]
  exact eqIntSS_self_l l hl hx l.length k 0 (by omega) (by omega) hk

theorem bt_nat (s : ByteArray) (i : Nat) (h : i < s.data.toList.length) : bt s (i : Int) = ((s.data.toList[i]).toNat : Int) := by
  have h' : i < s.size := h
  have h2 : ((i : Nat) : Int).toNat < s.size := by omega
  rw [← bt_at s i h2]
  simp [ByteArray.getElem_eq_getElem_data]
theorem bt_is (s : ByteArray) (i : Nat) (h : i < s.data.toList.length) (c : UInt8) (m : Int) (hm : (c.toNat : Int) = m) : (bt s (i : Int) = m) = (s.data.toList[i] = c) := by
  rw [bt_nat s i h, ← hm]
  apply propext
  constructor
  · intro e
    exact UInt8.toNat_inj.mp (by omega)
  · intro e
    rw [e]

theorem wares_l (l : List (List Int)) (hl : l.length ≤ 6) (d : Nat) : ∀ (k i : Nat), l.length - i = d → i ≤ l.length → d < k → spec_WaresOk.l0 k l (l.length : Int) (i : Int) = some ((l.drop i).all wareOk) := by
  induction d with
  | zero =>
    intro k i hd hi hk
    obtain ⟨k, rfl⟩ := succ_of hk
    simp only [spec_WaresOk.l0, lt_f (show l.length ≤ i by omega), if_false, List.drop_of_length_le (show l.length ≤ i by omega), List.all_nil]
  | succ d ih =>
    intro k i hd hi hk
    obtain ⟨k, rfl⟩ := succ_of hk
    have hlt : i < l.length := by omega
    have hih := ih k (i + 1) (by omega) (by omega) (by omega)
    rw [List.drop_eq_getElem_cons hlt, List.all_cons]
    simp only [spec_WaresOk.l0, lt_t hlt, nn_t, if_true, rdL_get l i hlt, l01In_f, Option.bind_some, w1 (show i ≤ 140737488355328 by omega), hih]
    generalize (l.drop (i + 1)).all wareOk = q
    generalize l[i] = p
    unfold wareOk
    generalize rd p 0 = a
    generalize rd p 1 = b
    generalize rd p 2 = c
    by_cases h3 : p.length = 3
    · simp only [show ((p.length : Int) = 3) = True from eq_true (by omega), show (0 < (p.length : Int)) = True from eq_true (by omega), show (1 < (p.length : Int)) = True from eq_true (by omega), show (2 < (p.length : Int)) = True from eq_true (by omega), h3, if_true, true_and]
      by_cases g0 : 1 ≤ a ∧ a ≤ 16
      · by_cases g1 : 1 ≤ b ∧ b ≤ 16
        · by_cases g2 : 0 ≤ c ∧ c ≤ 1000
          · simp [g0, g1, g2]
          · simp [g0, g1, g2]
        · simp [g0, g1]
      · simp [g0]
    · have : ¬ ((p.length : Int) = 3) := by omega
      simp [this, h3]
def waresOk (l : List (List Int)) : Bool := decide (l.length ≤ 6) && l.all wareOk
theorem wares_f (l : List (List Int)) (k : Nat) (hk : 8 < k) : spec_WaresOk.f k l = some (waresOk l) := by
  unfold spec_WaresOk.f waresOk
  by_cases h6 : l.length ≤ 6
  · rw [if_neg (by omega)]
    have := wares_l l h6 l.length k 0 (by omega) (by omega) (by omega)
    rw [Int.ofNat_zero, List.drop_zero] at this
    rw [this]
    simp [h6]
  · rw [if_pos (by omega)]
    simp [h6]
theorem wares_impl (l : List (List Int)) : impl_WaresOk.f l = some (waresOk l) := rfl
theorem waresOk_facts {l : List (List Int)} (h : waresOk l = true) : l.length ≤ 6 ∧ ∀ p ∈ l, p.length = 3 ∧ (1 ≤ rd p 0 ∧ rd p 0 ≤ 16) ∧ (1 ≤ rd p 1 ∧ rd p 1 ≤ 16) ∧ (0 ≤ rd p 2 ∧ rd p 2 ≤ 1000) := by
  simp only [waresOk, Bool.and_eq_true, decide_eq_true_eq, List.all_eq_true] at h
  refine ⟨h.1, fun p hp => ?_⟩
  have := h.2 p hp
  simpa [wareOk] using this

theorem more_of {α : Type} {f : Nat → Option α} (h : ∀ k, LeO (f k) (f (k + 1))) {k : Nat} {r : α} (hr : f k = some r) (K : Nat) (hK : k ≤ K) : f K = some r := by
  obtain ⟨m, rfl⟩ := Nat.exists_eq_add_of_le hK
  clear hK
  induction m with
  | zero => exact hr
  | succ m ih => exact h (k + m) _ ih

def marked (a : Int) (n : Nat) : List Int := (List.range n).map fun j : Nat => a + (j : Int)
theorem marked_length (a : Int) (n : Nat) : (marked a n).length = n := by simp [marked]
theorem marked_get (a : Int) (n i : Nat) (h : i < n) : rd (marked a n) (i : Int) = a + (i : Int) := by
  rw [rd_get _ _ (by rw [marked_length]; exact h)]
  simp [marked]
theorem mark_l (n : Nat) (a : Int) (h0 : 0 ≤ a) (h1 : a + (n : Int) ≤ 4611686018427387904) (hn : n ≤ 140737488355328) (d : Nat) : ∀ (k i : Nat) (l : List Int), n - i = d → i ≤ n → l.length = n → l.take i = marked a i → d < k → laws_markIntS.l0 k l (a + (i : Int)) (i : Int) = some (a + (n : Int), marked a n) := by
  induction d with
  | zero =>
    intro k i l hd hi hl ht hk
    obtain ⟨k, rfl⟩ := succ_of hk
    have : i = n := by omega
    subst this
    subst hl
    simp only [laws_markIntS.l0, lt_f (Nat.le_refl l.length), if_false]
    rw [List.take_length] at ht
    rw [← ht]
  | succ d ih =>
    intro k i l hd hi hl ht hk
    obtain ⟨k, rfl⟩ := succ_of hk
    have hlt : i < l.length := by omega
    simp only [laws_markIntS.l0, lt_t hlt, nn_t, if_true, w1 (show i ≤ 140737488355328 by omega)]
    rw [w64 (by omega) (by omega), show a + (i : Int) + 1 = a + ((i + 1 : Nat) : Int) by omega]
    refine ih k (i + 1) _ (by omega) (by omega) (by simp [hl]) ?_ (by omega)
    rw [Int.toNat_natCast, List.take_add_one, List.take_set_of_le (Nat.le_refl _), ht]
    simp [hlt, marked, List.range_succ]
theorem mark_f (l : List Int) (a : Int) (h0 : 0 ≤ a) (h1 : a + (l.length : Int) ≤ 4611686018427387904) (hn : l.length ≤ 140737488355328) (k : Nat) (hk : l.length < k) : laws_markIntS.f k l a = some (a + (l.length : Int), marked a l.length) := by
  have := mark_l l.length a h0 h1 hn l.length k 0 l (by omega) (by omega) rfl (by simp [marked]) hk
  rw [Int.ofNat_zero, Int.add_zero] at this
  exact this
theorem held_l (n : Nat) (a : Int) (h0 : 0 ≤ a) (h1 : a + (n : Int) ≤ 4611686018427387904) (hn : n ≤ 140737488355328) (d : Nat) : ∀ (k i : Nat), n - i = d → i ≤ n → d < k → laws_heldIntS.l0 k (marked a n) (a + (i : Int)) (i : Int) = some (a + (n : Int)) := by
  induction d with
  | zero =>
    intro k i hd hi hk
    obtain ⟨k, rfl⟩ := succ_of hk
    have : i = n := by omega
    subst this
    simp only [laws_heldIntS.l0, marked_length, lt_f (Nat.le_refl i), if_false]
  | succ d ih =>
    intro k i hd hi hk
    obtain ⟨k, rfl⟩ := succ_of hk
    have hlt : i < n := by omega
    simp only [laws_heldIntS.l0, marked_length, lt_t hlt, nn_t, if_true, w1 (show i ≤ 140737488355328 by omega), marked_get a n i hlt]
    rw [w64 (by omega) (by omega), show a + (i : Int) + 1 = a + ((i + 1 : Nat) : Int) by omega]
    exact ih k (i + 1) (by omega) (by omega) (by omega)
theorem held_f (n : Nat) (a : Int) (h0 : 0 ≤ a) (h1 : a + (n : Int) ≤ 4611686018427387904) (hn : n ≤ 140737488355328) (k : Nat) (hk : n < k) : laws_heldIntS.f k (marked a n) a = some (a + (n : Int)) := by
  have := held_l n a h0 h1 hn n k 0 (by omega) (by omega) hk
  rw [Int.ofNat_zero, Int.add_zero] at this
  exact this

theorem mk_l (n : Nat) (a : Int) (h0 : 0 ≤ a) (h1 : a + (n : Int) ≤ 4611686018427387904) (hn : n ≤ 140737488355328) (d : Nat) : ∀ (k i : Nat), n - i = d → i ≤ n → d < k → mk.l0 k n (a + (i : Int)) (i : Int) = some (a + (n : Int)) := by
  induction d with
  | zero =>
    intro k i hd hi hk
    obtain ⟨k, rfl⟩ := succ_of hk
    have : i = n := by omega
    subst this
    simp only [mk.l0, lt_f (Nat.le_refl i), if_false]
  | succ d ih =>
    intro k i hd hi hk
    obtain ⟨k, rfl⟩ := succ_of hk
    have hlt : i < n := by omega
    simp only [mk.l0, lt_t hlt, nn_t, if_true, w1 (show i ≤ 140737488355328 by omega)]
    rw [w64 (by omega) (by omega), show a + (i : Int) + 1 = a + ((i + 1 : Nat) : Int) by omega]
    exact ih k (i + 1) (by omega) (by omega) (by omega)
theorem markSS_l (l : List (List Int)) (hl : l.length ≤ 1048576) (hx : ∀ x ∈ l, x.length ≤ 1048576) (d : Nat) : ∀ (k i : Nat) (a : Int), l.length - i = d → i ≤ l.length → d + 1048577 < k → 1 ≤ a → a ≤ 1 + 1048576 * (i : Int) → ∃ t, laws_markIntSS.l0 k l a (i : Int) = some t ∧ 0 ≤ t := by
  induction d with
  | zero =>
    intro k i a hd hi hk h0 h1
    obtain ⟨k, rfl⟩ := succ_of (show 0 < k by omega)
    exact ⟨a, by simp only [laws_markIntSS.l0, lt_f (show l.length ≤ i by omega), if_false], by omega⟩
  | succ d ih =>
    intro k i a hd hi hk h0 h1
    obtain ⟨k, rfl⟩ := succ_of (show 0 < k by omega)
    have hlt : i < l.length := by omega
    have hxi := hx _ (List.getElem_mem hlt)
    have hm := mk_l (l[i]).length a (by omega) (by omega) (by omega) (l[i]).length k 0 (by omega) (by omega) (by omega)
    rw [Int.ofNat_zero, Int.add_zero] at hm
    simp only [laws_markIntSS.l0, lt_t hlt, nn_t, if_true, rdL_get l i hlt, hm, Option.bind_some, w1 (show i ≤ 140737488355328 by omega)]
    exact ih k (i + 1) _ (by omega) (by omega) (by omega) (by omega) (by omega)
theorem markSS (l : List (List Int)) (hl : l.length ≤ 1048576) (hx : ∀ x ∈ l, x.length ≤ 1048576) (k : Nat) (hk : l.length + 1048577 < k) : ∃ t, laws_markIntSS.f k l 1 = some t ∧ 0 ≤ t := by
  have := markSS_l l hl hx l.length k 0 1 (by omega) (by omega) hk (by omega) (by omega)
  exact this

def cnt (l : List UInt8) (j : Nat) : Nat := l.count (UInt8.ofNat (97 + j))
def cnts (l : List UInt8) (n : Nat) : List Int := (List.range n).map fun j => ((cnt l j : Nat) : Int)
theorem cnts_len (l : List UInt8) (n : Nat) : (cnts l n).length = n := by simp [cnts]
theorem cnts_get (l : List UInt8) (n j : Nat) (h : j < n) : rd (cnts l n) (j : Int) = ((cnt l j : Nat) : Int) := by
  rw [rd_get _ _ (by rw [cnts_len]; exact h)]
  simp [cnts]
theorem cnt_snoc (l : List UInt8) (c : UInt8) (j : Nat) (hj : j < 6) : cnt (l ++ [c]) j = cnt l j + (if c.toNat = 97 + j then 1 else 0) := by
  unfold cnt
  rw [List.count_append, List.count_singleton]
  have e : (UInt8.ofNat (97 + j)).toNat = 97 + j := by simp; omega
  have e2 : (c = UInt8.ofNat (97 + j)) ↔ (c.toNat = 97 + j) := by
    constructor
    · intro h
      rw [h, e]
    · intro h
      exact UInt8.toNat_inj.mp (by omega)
  by_cases h : c.toNat = 97 + j
  · rw [if_pos h, if_pos (by simpa using e2.mpr h)]
  · rw [if_neg h, if_neg (by simpa using fun q => h (e2.mp q))]
theorem cnts_set (l : List UInt8) (c : UInt8) (n j : Nat) (hn : n ≤ 6) (hj : j < n) (hc : c.toNat = 97 + j) : (cnts l n).set j ((cnt l j : Nat) + 1 : Int) = cnts (l ++ [c]) n := by
  apply List.ext_getElem
  · simp [cnts]
  · intro i h1 h2
    have hi : i < n := by simpa [cnts] using h2
    rw [List.getElem_set]
    simp only [cnts, List.getElem_map, List.getElem_range]
    rw [cnt_snoc l c i (by omega)]
    by_cases e : j = i
    · subst e
      simp [hc]
    · rw [if_neg e, if_neg (by omega)]
      simp
theorem cnts_same (l : List UInt8) (c : UInt8) (n : Nat) (hn : n ≤ 6) (hc : c.toNat < 97 ∨ 97 + n ≤ c.toNat) : cnts l n = cnts (l ++ [c]) n := by
  apply List.ext_getElem
  · simp [cnts]
  · intro i h1 h2
    have hi : i < n := by simpa [cnts] using h2
    simp only [cnts, List.getElem_map, List.getElem_range]
    rw [cnt_snoc l c i (by omega), if_neg (by omega)]
    simp
theorem spec_cnts_l (ws : List (List Int)) (hw : ws.length ≤ 6) (s : ByteArray) (hs : s.size ≤ 2000) (d : Nat) : ∀ (k i : Nat), s.size - i = d → i ≤ s.size → d < k → spec_WareCounts.l0 k ws s (cnts (s.data.toList.take i) ws.length) (i : Int) = some (cnts s.data.toList ws.length) := by
  have hl : s.data.toList.length = s.size := rfl
  induction d with
  | zero =>
    intro k i hd hi hk
    obtain ⟨k, rfl⟩ := succ_of hk
    simp only [spec_WareCounts.l0, lt_f (show s.size ≤ i by omega), if_false]
    rw [List.take_of_length_le (by omega)]
  | succ d ih =>
    intro k i hd hi hk
    obtain ⟨k, rfl⟩ := succ_of hk
    have hlt : i < s.data.toList.length := by omega
    have hlt' : i < s.size := by omega
    have e := ih k (i + 1) (by omega) (by omega) (by omega)
    have et : s.data.toList.take (i + 1) = s.data.toList.take i ++ [s.data.toList[i]] := by rw [List.take_add_one, List.getElem?_eq_getElem hlt]; rfl
    rw [et] at e
    simp only [spec_WareCounts.l0, lt_t hlt', nn_t, if_true, bt_nat s i hlt, w1 (show i ≤ 140737488355328 by omega), cnts_len]
    generalize hc : s.data.toList[i] = c at e
    generalize hT : s.data.toList.take i = T at e
    have hTl : T.length ≤ 2000 := by rw [← hT, List.length_take]; omega
    have hc2 := c.toNat_lt
    rw [w64 (x := (c.toNat : Int)) (by omega) (by omega), w64 (x := (c.toNat : Int) - 97) (by omega) (by omega)]
    by_cases h1 : 97 ≤ c.toNat
    · obtain ⟨j, hj⟩ : ∃ j, c.toNat = 97 + j := ⟨c.toNat - 97, by omega⟩
      have ej : (c.toNat : Int) - 97 = (j : Int) := by omega
      rw [ej, if_pos (by omega)]
      by_cases h2 : j < ws.length
      · have hcl : cnt T j ≤ T.length := List.count_le_length
        rw [if_pos (by omega), if_pos (by omega), if_pos (by omega), cnts_get T ws.length j h2, w64 (by omega) (by omega), Int.toNat_natCast, cnts_set T c ws.length j hw h2 hj, e]
      · rw [if_neg (by omega), cnts_same T c ws.length hw (by omega), e]
    · rw [if_neg (by omega), cnts_same T c ws.length hw (by omega), e]
theorem letters (s : ByteArray) (i : Nat) (h : i < 6) : strings_Count.f s ((⟨#[97, 98, 99, 100, 101, 102]⟩ : ByteArray).extract i (i + 1)) = some ((cnt s.data.toList i : Nat) : Int) := by
  match i, h with
  | 0, _ => rfl
  | 1, _ => rfl
  | 2, _ => rfl
  | 3, _ => rfl
  | 4, _ => rfl
  | 5, _ => rfl
theorem impl_cnts_l (n : Nat) (hn : n ≤ 6) (s : ByteArray) (d : Nat) : ∀ (k i : Nat), n - i = d → i ≤ n → d < k → impl_WareCounts.l0 k s (cnts s.data.toList i) (n : Int) (i : Int) = some (cnts s.data.toList n) := by
  induction d with
  | zero =>
    intro k i hd hi hk
    obtain ⟨k, rfl⟩ := succ_of hk
    have : i = n := by omega
    subst this
    simp only [impl_WareCounts.l0, lt_f (Nat.le_refl i), if_false]
  | succ d ih =>
    intro k i hd hi hk
    obtain ⟨k, rfl⟩ := succ_of hk
    have hlt : i < n := by omega
    have e := ih k (i + 1) (by omega) (by omega) (by omega)
    have es : cnts s.data.toList (i + 1) = cnts s.data.toList i ++ [((cnt s.data.toList i : Nat) : Int)] := by simp [cnts, List.range_succ]
    rw [es] at e
    simp only [impl_WareCounts.l0, lt_t hlt, nn_t, if_true, w1 (show i ≤ 140737488355328 by omega)]
    rw [if_pos (by omega), if_pos (by omega), Int.toNat_natCast, Int.toNat_natCast, letters s i (by omega), Option.bind_some, cnts_len, if_pos (by omega), e]
theorem wareCounts_eq (ws : List (List Int)) (s : ByteArray) (k : Nat) (hk : 2005 < k) : ∃ r, spec_WareCounts.f k ws s = some r ∧ impl_WareCounts.f k ws s = some r ∧ r.length ≤ 6 := by
  unfold spec_WareCounts.f impl_WareCounts.f
  rw [wares_f ws k (by omega), wares_impl, Option.bind_some, Option.bind_some]
  obtain ⟨k, rfl⟩ := succ_of (show 0 < k by omega)
  cases hw : waresOk ws with
  | false => exact ⟨[], by simp [spec_WareCounts.j0], by simp [impl_WareCounts.j0], by simp⟩
  | true =>
    obtain ⟨hl, _⟩ := waresOk_facts hw
    rw [if_pos rfl, if_pos rfl]
    by_cases h2 : (s.size : Int) > 2000
    · exact ⟨[], by simp [spec_WareCounts.j0, h2], by simp [impl_WareCounts.j0, h2], by simp⟩
    · have a := spec_cnts_l ws hl s (by omega) s.size k 0 (by omega) (by omega) (by omega)
      have b := impl_cnts_l ws.length hl s ws.length k 0 (by omega) (by omega) (by omega)
      have ez : cnts ([] : List UInt8) ws.length = List.replicate ws.length 0 := by
        apply List.ext_getElem
        · simp [cnts]
        · intro i h1 h3
          simp [cnts, cnt]
      rw [List.take_zero, ez] at a
      refine ⟨cnts s.data.toList ws.length, ?_, ?_, by rw [cnts_len]; exact hl⟩
      · simp only [spec_WareCounts.j0, h2, decide_false, Bool.false_eq_true, if_false]
        rw [if_pos (by omega), Int.toNat_natCast, if_pos (by omega)]
        exact a
      · simp only [impl_WareCounts.j0, h2, decide_false, Bool.false_eq_true, if_false]
        exact b
theorem FnExactWareCounts : laws_FnExactWareCounts.Pure := by
  intro l s hm _ hw hs0
  refine ⟨2097160, ?_⟩
  unfold laws_FnExactWareCounts.f
  by_cases hbig : (s.size : Int) > 1048576
  · rw [if_pos hbig]
  rw [if_neg hbig]
  obtain ⟨z, hs, hsz⟩ := szSS l hm (fun x hx => (hw x hx).1) 2097160 (by omega)
  rw [hs]
  simp only [Option.bind_some]
  by_cases h : z < 0
  · rw [if_pos h]
  · obtain ⟨hl, hx⟩ := hsz (by omega)
    obtain ⟨r, h1, h2, hr⟩ := wareCounts_eq l s 2097160 (by omega)
    obtain ⟨r', h1', h2', _⟩ := wareCounts_eq l s 2097159 (by omega)
    have e : r' = r := by
      have := more_of (f := fun k => spec_WareCounts.f k l s) (fun k => spec_WareCounts.mono _ _ k) h1' 2097160 (by omega)
      exact Option.some.inj (this.symm.trans h1)
    subst e
    obtain ⟨t, ht, ht0⟩ := markSS l hl hx 2097160 (by omega)
    rw [if_neg h, toIntSS l hl hx _ (by omega)]
    simp only [Option.bind_some, h1, h2, eqIntS r' r' (by omega) _ (show r'.length < 2097160 by omega), decide_true, if_true, eqIntSS_self l hl hx _ (show l.length + 1048577 < 2097160 by omega), ht]
    rw [if_neg (by omega)]
    simp only [laws_FnExactWareCounts.j0, Bool.not_true, Bool.false_eq_true, if_false, mark_f r' 1 (by omega) (by omega) (by omega) 2097159 (by omega), held_f r'.length 1 (by omega) (by omega) (by omega) 2097159 (by omega), Option.bind_some, if_true, toIntSS l hl hx 2097159 (by omega), h2', eqIntS r' r' (by omega) 2097159 (by omega), decide_true]
    rw [if_neg (by omega)]
    rw [if_neg (by omega)]

end Go.Proofs.Ytmokeeakgacadaa.Pure
