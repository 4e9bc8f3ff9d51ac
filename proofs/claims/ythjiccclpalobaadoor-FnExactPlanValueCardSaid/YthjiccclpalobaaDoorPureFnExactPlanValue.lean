/- PlanValue: the program reads a plan's rest and the reference reads from a place on; both come to the same value or both find none. -/
import Derived.Test.YthjiccclpalobaaDoorXFnExactPlanValuex7
namespace Go.Proofs.YthjiccclpalobaaDoor.Pure
open Go.RowKit Go.WideShapes Go.Proofs.YthjiccclpalobaaDoor.XFnExactPlanValue Go.Proofs.YthjiccclpalobaaDoorW.PrintWords Go.Proofs.YthjiccclpalobaaDoorW.PrintLast
set_option linter.unusedVariables false
set_option linter.unusedSimpArgs false
theorem wf64 {x : Int} (h : (Lit.int .i64 x).wf = true) : -9223372036854775808 ≤ x ∧ x ≤ 9223372036854775807 := by
  simp only [Lit.wf, IntKind.min, IntKind.max, IntKind.signed, IntKind.bits, Bool.and_eq_true, decide_eq_true_eq, if_true] at h
  omega
theorem w64 {x : Int} (h0 : -9223372036854775808 ≤ x) (h1 : x ≤ 9223372036854775807) : wrap64 x = x := by
  unfold wrap64
  omega
theorem succ_of {d k : Nat} (h : d < k) : ∃ m, k = m + 1 := ⟨k - 1, by omega⟩
theorem rd_nat (l : List Int) (i : Nat) : rd l (i : Int) = l.getD i 0 := by simp [rd]
theorem rd_get (l : List Int) (i : Nat) (h : i < l.length) : rd l (i : Int) = l[i] := by simp [rd, List.getD_eq_getElem?_getD, h]
theorem w1 {i : Nat} (h : i ≤ 140737488355328) : wrap64 ((i : Int) + 1) = ((i + 1 : Nat) : Int) := by
  unfold wrap64
  omega
theorem lt_t {i n : Nat} (h : i < n) : ((i : Int) < (n : Int)) = True := eq_true (by omega)
theorem lt_f {i n : Nat} (h : n ≤ i) : ((i : Int) < (n : Int)) = False := eq_false (by omega)
theorem nn_t (i : Nat) : (0 ≤ (i : Int)) = True := eq_true (by omega)
theorem w64n (n : Nat) (h : n ≤ 9223372036854775807) : wrap64 (n : Int) = (n : Int) := w64 (by omega) (by omega)
theorem w64sub (a b c : Nat) (ha : a ≤ 9223372036854775807) (h : a = b + c) : wrap64 ((a : Int) - (b : Int)) = (c : Int) := by
  rw [w64 (by omega) (by omega)]
  omega

theorem toIntS_l (l : List Int) (hl : l.length ≤ 35184372088832) (d : Nat) : ∀ (k : Nat) (ys : List Int) (i : Nat), l.length - i = d → i ≤ l.length → ys.length = l.length → ys.take i = l.take i → d < k → laws_toIntS.l0 k l ys (i : Int) = some l := by
  induction d with
  | zero =>
    intro k ys i hd hi hy ht hk
    obtain ⟨k, rfl⟩ := succ_of hk
    simp only [laws_toIntS.l0]
    rw [if_neg (by omega)]
    have : i = l.length := by omega
    subst this
    rw [List.take_length, ← hy, List.take_length] at ht
    rw [ht]
  | succ d ih =>
    intro k ys i hd hi hy ht hk
    obtain ⟨k, rfl⟩ := succ_of hk
    simp only [laws_toIntS.l0]
    rw [if_pos (by omega), if_pos (by omega), if_pos (by omega), w1 (by omega), rd_get l i (by omega)]
    refine ih k _ (i + 1) (by omega) (by omega) (by simp [hy]) ?_ (by omega)
    rw [Int.toNat_natCast, List.take_add_one, List.take_add_one, List.take_set_of_le (Nat.le_refl _), ht]
    simp [hy, show i < l.length by omega]
theorem toIntS (l : List Int) (hl : l.length ≤ 35184372088832) (k : Nat) (hk : l.length < k) : laws_toIntS.f k l = some l := by
  unfold laws_toIntS.f
  rw [if_pos (by omega), if_pos (by omega)]
  exact toIntS_l l hl l.length k _ 0 (by omega) (by omega) (by simp) rfl hk
theorem eqIntS_l (l m : List Int) (hl : l.length ≤ 35184372088832) (he : l.length = m.length) (d : Nat) : ∀ (k : Nat) (i : Nat), l.length - i = d → i ≤ l.length → d < k → laws_eqIntS.l0 k l m (i : Int) = some (decide (l.drop i = m.drop i)) := by
  induction d with
  | zero =>
    intro k i hd hi hk
    obtain ⟨k, rfl⟩ := succ_of hk
    simp only [laws_eqIntS.l0]
    rw [if_neg (by omega), List.drop_of_length_le (by omega), List.drop_of_length_le (by omega)]
    simp
  | succ d ih =>
    intro k i hd hi hk
    obtain ⟨k, rfl⟩ := succ_of hk
    simp only [laws_eqIntS.l0]
    rw [if_pos (by omega), if_pos (by omega), if_pos (by omega), w1 (by omega), rd_get l i (by omega), rd_get m i (by omega), ih k (i + 1) (by omega) (by omega) (by omega)]
    have h1 := List.drop_eq_getElem_cons (show i < l.length by omega)
    have h2 := List.drop_eq_getElem_cons (show i < m.length by omega)
    by_cases e : l[i]'(by omega) = m[i]'(by omega)
    · rw [if_pos e, h1, h2]
      simp only [List.cons.injEq, e, true_and]
    · rw [if_neg e, h1, h2]
      simp only [List.cons.injEq, e, false_and, decide_false]
theorem eqIntS (l m : List Int) (hl : l.length ≤ 35184372088832) (k : Nat) (hk : l.length < k) : laws_eqIntS.f k l m = some (decide (l = m)) := by
  unfold laws_eqIntS.f
  by_cases e : l.length = m.length
  · rw [if_pos (by omega)]
    have := eqIntS_l l m hl e l.length k 0 (by omega) (by omega) hk
    simpa using this
  · rw [if_neg (by omega)]
    have : l ≠ m := fun h => e (by rw [h])
    simp [this]

theorem within_f (a b c : Int) : impl_within.f a b c = some (decide (b ≤ a ∧ a ≤ c)) := by
  unfold impl_within.f
  by_cases h : a ≥ b
  · rw [if_pos h]; simp [show b ≤ a from h]
  · rw [if_neg h]; simp [show ¬ b ≤ a from h]
theorem l01In_f (a b c : Int) : spec_l01In.f a b c = some (decide (b ≤ a ∧ a ≤ c)) := by
  unfold spec_l01In.f
  by_cases h : a ≥ b
  · rw [if_pos h]; simp [show b ≤ a from h]
  · rw [if_neg h]; simp [show ¬ b ≤ a from h]

theorem rdL_get (l : List (List Int)) (i : Nat) (h : i < l.length) : rd_L1 l (i : Int) = l[i] := by simp [rd_L1, List.getD_eq_getElem?_getD, h]
theorem maxLen_le {n : Nat} (h : n ≤ maxLen) : n ≤ 9223372036854775807 := by unfold maxLen at h; exact h
theorem szS_f (x : List Int) (hx : x.length ≤ maxLen) (left : Int) (h0 : 0 ≤ left) (h1 : left ≤ 1048576) : laws_szIntS.f x left = some (if (x.length : Int) ≤ left then left - (x.length : Int) else -1) := by
  have := maxLen_le hx
  unfold laws_szIntS.f
  rw [w64 (by omega) (by omega)]
  by_cases h : (x.length : Int) ≤ left
  · rw [if_neg (by omega), if_pos h]
  · rw [if_pos (by omega), if_neg h]
theorem szSS_l (l : List (List Int)) (hl : l.length ≤ 1048576) (hx : ∀ x ∈ l, x.length ≤ maxLen) (d : Nat) : ∀ (k i : Nat) (left : Int), l.length - i = d → i ≤ l.length → d < k → 0 ≤ left → left ≤ 1048576 → ∃ r, laws_szIntSS.l0 k l left (i : Int) = some r ∧ (0 ≤ r → ∀ (j : Nat) (hj : j < l.length), i ≤ j → (l[j]).length ≤ 1048576) := by
  induction d with
  | zero =>
    intro k i left hd hi hk h0 h1
    obtain ⟨k, rfl⟩ := succ_of hk
    refine ⟨left, ?_, fun _ j hj hij => by omega⟩
    simp only [laws_szIntSS.l0, lt_f (show l.length ≤ i by omega), if_false]
  | succ d ih =>
    intro k i left hd hi hk h0 h1
    obtain ⟨k, rfl⟩ := succ_of hk
    have hlt : i < l.length := by omega
    simp only [laws_szIntSS.l0, lt_t hlt, nn_t, if_true, rdL_get l i hlt, szS_f _ (hx _ (List.getElem_mem hlt)) left h0 h1, Option.bind_some, w1 (show i ≤ 140737488355328 by omega)]
    by_cases h : ((l[i]).length : Int) ≤ left
    · rw [if_pos h, if_neg (by omega)]
      obtain ⟨r, h2, h3⟩ := ih k (i + 1) (left - ((l[i]).length : Int)) (by omega) (by omega) (by omega) (by omega) (by omega)
      refine ⟨r, h2, fun hr j hj hij => ?_⟩
      by_cases e : j = i
      · subst e; omega
      · exact h3 hr j hj (by omega)
    · rw [if_neg h]
      exact ⟨-1, by simp, fun h => by omega⟩
theorem szSS (l : List (List Int)) (hm : l.length ≤ maxLen) (hx : ∀ x ∈ l, x.length ≤ maxLen) (k : Nat) (hk : 1048577 < k) : ∃ r, laws_szIntSS.f k l 1048576 = some r ∧ (0 ≤ r → l.length ≤ 1048576 ∧ ∀ x ∈ l, x.length ≤ 1048576) := by
  have := maxLen_le hm
  unfold laws_szIntSS.f
  rw [w64 (by omega) (by omega)]
  by_cases h : (l.length : Int) ≤ 1048576
  · rw [if_neg (by omega)]
    obtain ⟨r, h1, h2⟩ := szSS_l l (by omega) hx l.length k 0 (1048576 - (l.length : Int)) (by omega) (by omega) (by omega) (by omega) (by omega)
    refine ⟨r, h1, fun hr => ⟨by omega, fun x hx => ?_⟩⟩
    obtain ⟨j, hj, rfl⟩ := List.getElem_of_mem hx
    exact h2 hr j hj (by omega)
  · rw [if_pos (by omega)]
    exact ⟨-1, rfl, fun h => by omega⟩
theorem toIntSS_l (l : List (List Int)) (hl : l.length ≤ 1048576) (hx : ∀ x ∈ l, x.length ≤ 1048576) (d : Nat) : ∀ (k : Nat) (ys : List (List Int)) (i : Nat), l.length - i = d → i ≤ l.length → ys.length = l.length → ys.take i = l.take i → d + 1048577 < k → laws_toIntSS.l0 k l ys (i : Int) = some l := by
  induction d with
  | zero =>
    intro k ys i hd hi hy ht hk
    obtain ⟨k, rfl⟩ := succ_of (show 0 < k by omega)
    simp only [laws_toIntSS.l0, lt_f (show l.length ≤ i by omega), if_false]
    have : i = l.length := by omega
    subst this
    rw [List.take_length, ← hy, List.take_length] at ht
    rw [ht]
  | succ d ih =>
    intro k ys i hd hi hy ht hk
    obtain ⟨k, rfl⟩ := succ_of (show 0 < k by omega)
    have hlt : i < l.length := by omega
    have hx1 := hx _ (List.getElem_mem hlt)
    simp only [laws_toIntSS.l0, lt_t hlt, nn_t, if_true, rdL_get l i hlt, toIntS _ (show (l[i]).length ≤ 35184372088832 by omega) k (by omega), Option.bind_some, lt_t (show i < ys.length by omega), w1 (show i ≤ 140737488355328 by omega)]
    refine ih k _ (i + 1) (by omega) (by omega) (by simp [hy]) ?_ (by omega)
    rw [Int.toNat_natCast, List.take_add_one, List.take_add_one, List.take_set_of_le (Nat.le_refl _), ht]
    simp [hy, hlt]
theorem toIntSS (l : List (List Int)) (hl : l.length ≤ 1048576) (hx : ∀ x ∈ l, x.length ≤ 1048576) (k : Nat) (hk : l.length + 1048577 < k) : laws_toIntSS.f k l = some l := by
  unfold laws_toIntSS.f
  rw [if_pos (by omega), if_pos (by omega)]
  exact toIntSS_l l hl hx l.length k _ 0 (by omega) (by omega) (by simp) rfl hk
theorem eqIntSS_self_l (l : List (List Int)) (hl : l.length ≤ 1048576) (hx : ∀ x ∈ l, x.length ≤ 1048576) (d : Nat) : ∀ (k i : Nat), l.length - i = d → i ≤ l.length → d + 1048577 < k → laws_eqIntSS.l0 k l l (i : Int) = some true := by
  induction d with
  | zero =>
    intro k i hd hi hk
    obtain ⟨k, rfl⟩ := succ_of (show 0 < k by omega)
    simp only [laws_eqIntSS.l0, lt_f (show l.length ≤ i by omega), if_false]
  | succ d ih =>
    intro k i hd hi hk
    obtain ⟨k, rfl⟩ := succ_of (show 0 < k by omega)
    have hlt : i < l.length := by omega
    have hx1 := hx _ (List.getElem_mem hlt)
    simp only [laws_eqIntSS.l0, lt_t hlt, nn_t, if_true, rdL_get l i hlt, eqIntS _ _ (show (l[i]).length ≤ 35184372088832 by omega) k (show (l[i]).length < k by omega), Option.bind_some, w1 (show i ≤ 140737488355328 by omega), decide_true]
    exact ih k (i + 1) (by omega) (by omega) (by omega)
theorem eqIntSS_self (l : List (List Int)) (hl : l.length ≤ 1048576) (hx : ∀ x ∈ l, x.length ≤ 1048576) (k : Nat) (hk : l.length + 1048577 < k) : laws_eqIntSS.f k l l = some true := by
  unfold laws_eqIntSS.f
  rw [if_pos rfl]
  exact eqIntSS_self_l l hl hx l.length k 0 (by omega) (by omega) hk

theorem more_of {α : Type} {f : Nat → Option α} (h : ∀ k, LeO (f k) (f (k + 1))) {k : Nat} {r : α} (hr : f k = some r) (K : Nat) (hK : k ≤ K) : f K = some r := by
  obtain ⟨m, rfl⟩ := Nat.exists_eq_add_of_le hK
  clear hK
  induction m with
  | zero => exact hr
  | succ m ih => exact h (k + m) _ ih

theorem wares_l (l : List (List Int)) (hl : l.length ≤ 6) (d : Nat) : ∀ (k i : Nat), l.length - i = d → i ≤ l.length → d < k → spec_WaresOk.l0 k l (l.length : Int) (i : Int) = some ((l.drop i).all wareOk) := by
  induction d with
  | zero =>
    intro k i hd hi hk
    obtain ⟨k, rfl⟩ := succ_of hk
    simp only [spec_WaresOk.l0, lt_f (show l.length ≤ i by omega), if_false, List.drop_of_length_le (show l.length ≤ i by omega), List.all_nil]
  | succ d ih =>
    intro k i hd hi hk
    obtain ⟨k, rfl⟩ := succ_of hk
    have hlt : i < l.length := by omega
    have hih := ih k (i + 1) (by omega) (by omega) (by omega)
    rw [List.drop_eq_getElem_cons hlt, List.all_cons]
    simp only [spec_WaresOk.l0, lt_t hlt, nn_t, if_true, rdL_get l i hlt, l01In_f, Option.bind_some, w1 (show i ≤ 140737488355328 by omega), hih]
    generalize (l.drop (i + 1)).all wareOk = q
    generalize l[i] = p
    unfold wareOk
    generalize rd p 0 = a
    generalize rd p 1 = b
    generalize rd p 2 = c
    by_cases h3 : p.length = 3
    · simp only [show ((p.length : Int) = 3) = True from eq_true (by omega), show (0 < (p.length : Int)) = True from eq_true (by omega), show (1 < (p.length : Int)) = True from eq_true (by omega), show (2 < (p.length : Int)) = True from eq_true (by omega), h3, if_true, true_and]
      by_cases g0 : 1 ≤ a ∧ a ≤ 16
      · by_cases g1 : 1 ≤ b ∧ b ≤ 16
        · by_cases g2 : 0 ≤ c ∧ c ≤ 1000
          · simp [g0, g1, g2]
          · simp [g0, g1, g2]
        · simp [g0, g1]
      · simp [g0]
    · have : ¬ ((p.length : Int) = 3) := by omega
      simp [this, h3]
def waresOk (l : List (List Int)) : Bool := decide (l.length ≤ 6) && l.all wareOk
theorem wares_f (l : List (List Int)) (k : Nat) (hk : 8 < k) : spec_WaresOk.f k l = some (waresOk l) := by
  unfold spec_WaresOk.f waresOk
  by_cases h6 : l.length ≤ 6
  · rw [if_neg (by omega)]
    have := wares_l l h6 l.length k 0 (by omega) (by omega) (by omega)
    rw [Int.ofNat_zero, List.drop_zero] at this
    rw [this]
    simp [h6]
  · rw [if_pos (by omega)]
    simp [h6]
theorem wares_impl (l : List (List Int)) : impl_WaresOk.f l = some (waresOk l) := rfl
theorem waresOk_facts {l : List (List Int)} (h : waresOk l = true) : l.length ≤ 6 ∧ ∀ p ∈ l, p.length = 3 ∧ (1 ≤ rd p 0 ∧ rd p 0 ≤ 16) ∧ (1 ≤ rd p 1 ∧ rd p 1 ≤ 16) ∧ (0 ≤ rd p 2 ∧ rd p 2 ≤ 1000) := by
  simp only [waresOk, Bool.and_eq_true, decide_eq_true_eq, List.all_eq_true] at h
  refine ⟨h.1, fun p hp => ?_⟩
  have := h.2 p hp
  simpa [wareOk] using this
def plateOk (w h : Int) (l : List (List Int)) : Bool := decide (1 ≤ w ∧ w ≤ 16) && (decide (1 ≤ h ∧ h ≤ 16) && waresOk l)
theorem plate_spec (w h : Int) (l : List (List Int)) (k : Nat) (hk : 8 < k) : spec_l16Ok.f k w h l = some (plateOk w h l) := by
  unfold spec_l16Ok.f plateOk
  simp only [l01In_f, Option.bind_some, wares_f l k hk]
  by_cases h1 : 1 ≤ w ∧ w ≤ 16
  · by_cases h2 : 1 ≤ h ∧ h ≤ 16
    · simp [h1, h2]
    · simp [h1, h2]
  · simp [h1]
theorem plate_impl (w h : Int) (l : List (List Int)) : impl_isPlate.f w h l = some (plateOk w h l) := by
  unfold impl_isPlate.f plateOk
  simp only [within_f, Option.bind_some, wares_impl]
  by_cases h1 : 1 ≤ w ∧ w ≤ 16
  · by_cases h2 : 1 ≤ h ∧ h ≤ 16
    · simp [h1, h2]
    · simp [h1, h2]
  · simp [h1]

/-! A plan as text: what stands at a place of it, and where the numbers end. -/
def sfx (P : ByteArray) (i : Nat) : ByteArray := P.extract i P.size
def numK (n : Nat) : ByteArray := if n < 10 then ⟨#[UInt8.ofNat (48 + n)]⟩ else ⟨#[49, UInt8.ofNat (38 + n)]⟩
theorem len_data (s : ByteArray) : s.data.toList.length = s.size := Array.length_toList
theorem list_extract (s : ByteArray) (i j : Nat) : (s.extract i j).data.toList = (s.data.toList.drop i).take (j - i) := by
  rw [ByteArray.data_extract, Array.toList_extract]
theorem bt_list (s : ByteArray) (i : Nat) (h : i < s.size) : bt s (i : Int) = ((s.data.toList[i]'(by rw [len_data]; exact h)).toNat : Int) := by
  have h' : ((i : Int)).toNat < s.size := by rw [Int.toNat_natCast]; exact h
  rw [← bt_at s (i : Int) h']
  congr 2
theorem bt_get (s : ByteArray) (i : Nat) (h : i < s.size) : bt s (i : Int) = (((s.data.toList[i]?).getD 0).toNat : Int) := by
  rw [bt_list s i h, List.getElem?_eq_getElem (by rw [len_data]; exact h)]
  rfl
theorem sfx_size (P : ByteArray) (i : Nat) (h : i ≤ P.size) : (sfx P i).size = P.size - i := by
  unfold sfx
  rw [ByteArray.size_extract]
  omega
theorem sfx_list (P : ByteArray) (i : Nat) : (sfx P i).data.toList = P.data.toList.drop i := by
  unfold sfx
  rw [list_extract, List.take_of_length_le]
  rw [List.length_drop, len_data]
  omega
theorem sfx_zero (P : ByteArray) : sfx P 0 = P := bytes_inj (by rw [sfx_list]; rfl)
theorem sfx_extract (P : ByteArray) (i j : Nat) (hj : i + j ≤ P.size) : (sfx P i).extract j (sfx P i).size = sfx P (i + j) := by
  refine bytes_inj ?_
  have : (sfx P i).extract j (sfx P i).size = sfx (sfx P i) j := rfl
  rw [this, sfx_list, sfx_list, sfx_list, List.drop_drop]
theorem bt_sfx (P : ByteArray) (i j : Nat) (h : i + j < P.size) : bt (sfx P i) (j : Int) = bt P ((i + j : Nat) : Int) := by
  rw [bt_get _ j (by rw [sfx_size P i (by omega)]; omega), bt_get _ (i + j) h, sfx_list, List.getElem?_drop]
theorem extract_size (P : ByteArray) (p e : Nat) (h : p ≤ e) (he : e ≤ P.size) : (P.extract p e).size = e - p := by
  rw [ByteArray.size_extract]
  omega
theorem bt_extract (P : ByteArray) (p e j : Nat) (h : p + j < e) (he : e ≤ P.size) : bt (P.extract p e) (j : Int) = bt P ((p + j : Nat) : Int) := by
  rw [bt_get _ j (by rw [extract_size P p e (by omega) he]; omega), bt_get _ (p + j) (by omega), list_extract, List.getElem?_take, if_pos (by omega), List.getElem?_drop]
theorem bt_u8 (s : ByteArray) (i : Nat) (h : i < s.size) : ∃ u : UInt8, s.data.toList[i]? = some u ∧ bt s (i : Int) = (u.toNat : Int) :=
  ⟨_, List.getElem?_eq_getElem (by rw [len_data]; exact h), bt_list s i h⟩
/-- A text of so many bytes, each a digit. -/
def Dig (s : ByteArray) (i : Nat) : Prop := 48 ≤ bt s (i : Int) ∧ bt s (i : Int) ≤ 57
theorem dig_u8 (s : ByteArray) (i : Nat) (h : i < s.size) (hd : Dig s i) : ∃ d : Fin 10, s.data.toList[i]? = some (UInt8.ofNat (48 + d.1)) := by
  obtain ⟨u, h1, h2⟩ := bt_u8 s i h
  unfold Dig at hd
  rw [h2] at hd
  refine ⟨⟨u.toNat - 48, by omega⟩, ?_⟩
  rw [h1]
  congr 1
  apply UInt8.toNat_inj.1
  rw [UInt8.toNat_ofNat']
  show u.toNat = (48 + (u.toNat - 48)) % 256
  have := u.toNat_lt
  omega
theorem text0 (s : ByteArray) (h : s.size = 0) : s = ⟨#[]⟩ := bytes_inj (List.eq_nil_of_length_eq_zero ((len_data s).trans h))
theorem list1 {l : List UInt8} {a : UInt8} (hl : l.length = 1) (h0 : l[0]? = some a) : l = [a] := by
  match l, hl with
  | [x], _ => simpa using h0
theorem list2 {l : List UInt8} {a b : UInt8} (hl : l.length = 2) (h0 : l[0]? = some a) (h1 : l[1]? = some b) : l = [a, b] := by
  match l, hl with
  | [x, y], _ => simp at h0 h1; rw [h0, h1]
theorem list3 {l : List UInt8} {a b c : UInt8} (hl : l.length = 3) (h0 : l[0]? = some a) (h1 : l[1]? = some b) (h2 : l[2]? = some c) : l = [a, b, c] := by
  match l, hl with
  | [x, y, z], _ => simp at h0 h1 h2; rw [h0, h1, h2]
/-- What the reference's reader of numbers says of such a text. -/
def PGood (s : ByteArray) (r : Option (Int × Bool)) : Bool := match r with
  | some (v, ok) => !ok || decide (16 ≤ v) || decide (v ≤ 0) || decide (s.data.toList = (numK v.toNat).data.toList)
  | none => false
theorem parse0 : PGood ⟨#[]⟩ (spec_ParseInt.f 30 ⟨#[]⟩) = true := by decide +kernel
theorem parse1 : ∀ a : Fin 10, PGood ⟨#[UInt8.ofNat (48 + a.1)]⟩ (spec_ParseInt.f 30 ⟨#[UInt8.ofNat (48 + a.1)]⟩) = true := by decide +kernel
theorem parse2 : ∀ a b : Fin 10, PGood ⟨#[UInt8.ofNat (48 + a.1), UInt8.ofNat (48 + b.1)]⟩ (spec_ParseInt.f 30 ⟨#[UInt8.ofNat (48 + a.1), UInt8.ofNat (48 + b.1)]⟩) = true := by decide +kernel
theorem parse3 : ∀ a b c : Fin 10, PGood ⟨#[UInt8.ofNat (48 + a.1), UInt8.ofNat (48 + b.1), UInt8.ofNat (48 + c.1)]⟩ (spec_ParseInt.f 30 ⟨#[UInt8.ofNat (48 + a.1), UInt8.ofNat (48 + b.1), UInt8.ofNat (48 + c.1)]⟩) = true := by decide +kernel
theorem parse_good (s : ByteArray) (h : s.size ≤ 3) (hd : ∀ i, i < s.size → Dig s i) : PGood s (spec_ParseInt.f 30 s) = true := by
  have hl := len_data s
  rcases Nat.lt_or_ge s.size 1 with h0 | h0
  · rw [text0 s (by omega)]
    exact parse0
  obtain ⟨a, ha⟩ := dig_u8 s 0 (by omega) (hd 0 (by omega))
  rcases Nat.lt_or_ge s.size 2 with h1 | h1
  · have e : s = ⟨#[UInt8.ofNat (48 + a.1)]⟩ := bytes_inj (list1 (by omega) ha)
    rw [e]
    exact parse1 a
  obtain ⟨b, hb⟩ := dig_u8 s 1 (by omega) (hd 1 (by omega))
  rcases Nat.lt_or_ge s.size 3 with h2 | h2
  · have e : s = ⟨#[UInt8.ofNat (48 + a.1), UInt8.ofNat (48 + b.1)]⟩ := bytes_inj (list2 (by omega) ha hb)
    rw [e]
    exact parse2 a b
  obtain ⟨c, hc⟩ := dig_u8 s 2 (by omega) (hd 2 (by omega))
  have e : s = ⟨#[UInt8.ofNat (48 + a.1), UInt8.ofNat (48 + b.1), UInt8.ofNat (48 + c.1)]⟩ := bytes_inj (list3 (by omega) ha hb hc)
  rw [e]
  exact parse3 a b c
theorem parse_ex (s : ByteArray) (h : s.size ≤ 3) (hd : ∀ i, i < s.size → Dig s i) : ∃ v ok, (∀ k, 30 ≤ k → spec_ParseInt.f k s = some (v, ok)) ∧ (ok = true → 1 ≤ v → v < 16 → s = numK v.toNat) := by
  have hp := parse_good s h hd
  cases hr : spec_ParseInt.f 30 s with
  | none =>
    rw [hr] at hp
    cases hp
  | some r =>
    obtain ⟨v, ok⟩ := r
    rw [hr] at hp
    refine ⟨v, ok, fun k hk => more_of (f := fun k => spec_ParseInt.f k s) (spec_ParseInt.mono s) hr k hk, fun h1 h2 h3 => ?_⟩
    subst h1
    simp only [PGood, Bool.not_true, Bool.false_or, Bool.or_eq_true, decide_eq_true_eq] at hp
    rcases hp with (hp | hp) | hp
    · omega
    · omega
    · exact bytes_inj hp
theorem numK_facts : ∀ n : Fin 16, spec_ParseInt.f 30 (numK n.1) = some ((n.1 : Int), true) ∧ parseK (numK n.1) = some (n.1 : Int) ∧ (Lib.itoa (n.1 : Int)) = (numK n.1).data.toList ∧ (1 ≤ (numK n.1).size ∧ (numK n.1).size ≤ 2) ∧ ((numK n.1).data.toList.all fun u => decide (48 ≤ u.toNat ∧ u.toNat ≤ 57)) = true := by decide +kernel
theorem numK_dig (n : Nat) (hn : n < 16) (i : Nat) (hi : i < (numK n).size) : Dig (numK n) i := by
  have h := (numK_facts ⟨n, hn⟩).2.2.2.2
  have h := List.all_eq_true.1 h
  obtain ⟨u, h1, h2⟩ := bt_u8 (numK n) i hi
  have h3 := of_decide_eq_true (h u (List.mem_of_getElem? h1))
  unfold Dig
  rw [h2]
  omega
theorem parseK_num {s : ByteArray} {v : Int} (h : parseK s = some v) (h1 : 1 ≤ v) (h2 : v < 16) : s = numK v.toNat := by
  unfold parseK at h
  rcases ha : Lib.atoiAll s.data.toList with z | _ | _
  · rw [ha] at h
    have h : (if (⟨(Lib.itoa z).toArray⟩ : ByteArray).toList = s.toList then some z else none) = some v := h
    by_cases c : (⟨(Lib.itoa z).toArray⟩ : ByteArray).toList = s.toList
    · rw [if_pos c] at h
      obtain rfl := Option.some.inj h
      rw [ByteArray.toList_eq, ByteArray.toList_eq] at c
      have e := (numK_facts ⟨z.toNat, by omega⟩).2.2.1
      have e : Lib.itoa ((z.toNat : Nat) : Int) = (numK z.toNat).data.toList := e
      rw [Int.toNat_of_nonneg (by omega)] at e
      have c : (Lib.itoa z) = s.data.toList := c
      exact bytes_inj (c.symm.trans e)
    · rw [if_neg c] at h
      cases h
  · rw [ha] at h; cases h
  · rw [ha] at h; cases h
theorem cutI_at (P : ByteArray) (p e : Nat) (hp : p ≤ e) (he : e < P.size) (hb : bt P (e : Int) = 40) (hno : ∀ x, p ≤ x → x < e → bt P (x : Int) ≠ 40) : cutI (sfx P p) = ((e - p : Nat) : Int) := by
  have hs := sfx_size P p (by omega)
  have hge := (cutI_le (sfx P p)).1
  have h40 : ∀ x, p ≤ x → x < P.size → ((sfx P p).data.toList[x - p]? = some (40 : UInt8) ↔ bt P (x : Int) = 40) := fun x h1 h2 => by
    rw [sfx_list, List.getElem?_drop, show p + (x - p) = x by omega]
    obtain ⟨u, g1, g2⟩ := bt_u8 P x h2
    rw [g1, g2]
    constructor
    · intro h
      rw [Option.some.inj h]
      rfl
    · intro h
      congr 1
      apply UInt8.toNat_inj.1
      show u.toNat = 40
      omega
  rcases Int.lt_or_le (cutI (sfx P p)) 0 with h | h
  · have h1 : cutI (sfx P p) = -1 := by omega
    exact absurd ((h40 e hp he).2 hb) (Lib.indexByte_none h1 (e - p))
  · obtain ⟨o, ho⟩ : ∃ o : Nat, cutI (sfx P p) = o := ⟨(cutI (sfx P p)).toNat, by omega⟩
    have hle := (cutI_le (sfx P p)).2
    rw [ho] at hle ⊢
    obtain ⟨g1, g2⟩ := Lib.indexByte_some (show Lib.indexByte (sfx P p).data.toList 40 = (o : Int) from ho)
    have q1 : bt P ((p + o : Nat) : Int) = 40 := (h40 (p + o) (by omega) (by omega)).1 (by rw [show p + o - p = o by omega]; exact g1)
    rcases Nat.lt_trichotomy (p + o) e with h3 | h3 | h3
    · exact absurd q1 (hno (p + o) (by omega) h3)
    · omega
    · exact absurd ((h40 e hp he).2 hb) (g2 (e - p) (by omega))
theorem cutI_hit (P : ByteArray) (p : Nat) (hp : p ≤ P.size) (h : 0 ≤ cutI (sfx P p)) : ∃ e : Nat, p ≤ e ∧ e < P.size ∧ bt P (e : Int) = 40 ∧ cutI (sfx P p) = ((e - p : Nat) : Int) := by
  have hs := sfx_size P p hp
  obtain ⟨o, ho⟩ : ∃ o : Nat, cutI (sfx P p) = o := ⟨(cutI (sfx P p)).toNat, by omega⟩
  have hle := (cutI_le (sfx P p)).2
  rw [ho] at hle
  have g1 := (Lib.indexByte_some (show Lib.indexByte (sfx P p).data.toList 40 = (o : Int) from ho)).1
  refine ⟨p + o, by omega, by omega, ?_, by rw [ho]; omega⟩
  rw [sfx_list, List.getElem?_drop] at g1
  rw [bt_get P (p + o) (by omega), g1]
  rfl
theorem cutA_at (P : ByteArray) (p e : Nat) (hp : p ≤ e) (he : e ≤ P.size) (h : cutI (sfx P p) = ((e - p : Nat) : Int)) : cutA (sfx P p) = P.extract p e := by
  unfold cutA
  rw [if_pos (by omega), h, Int.toNat_natCast]
  refine bytes_inj ?_
  rw [list_extract, sfx_list, list_extract, List.drop_zero, Nat.sub_zero]
theorem cutB_at (P : ByteArray) (p e : Nat) (hp : p ≤ e) (he : e < P.size) (h : cutI (sfx P p) = ((e - p : Nat) : Int)) : cutB (sfx P p) = sfx P (e + 1) := by
  unfold cutB
  rw [if_pos (by omega), h, show (((e - p : Nat) : Int) + 1).toNat = e - p + 1 by omega, sfx_extract P p (e - p + 1) (by omega), show p + (e - p + 1) = e + 1 by omega]

def Good (P : ByteArray) (i : Nat) (o : Option (Int × Nat)) : Prop := ∀ v e, o = some (v, e) → (0 ≤ v ∧ v ≤ 1000 * ((e : Int) - (i : Int))) ∧ i < e ∧ e ≤ P.size
def SpecIs (o : Option (Int × Nat)) (r : Int × Int) : Prop := match o with
  | some (v, e) => r = (v, (e : Int))
  | none => r.1 = -1
def ImplIs (P : ByteArray) (o : Option (Int × Nat)) (r : Int × Bool × ByteArray) : Prop := match o with
  | some (v, e) => r = (v, true, sfx P e)
  | none => r.2.1 = false
def Bth (P : ByteArray) (i : Nat) (f : Nat → Option (Int × Int)) (g : Nat → Option (Int × Bool × ByteArray)) : Prop :=
  ∃ (K : Nat) (o : Option (Int × Nat)), Good P i o ∧ ∀ k, K ≤ k → (∃ r, f k = some r ∧ SpecIs o r) ∧ (∃ r, g k = some r ∧ ImplIs P o r)
def Out (ps : List (List Int)) (P : ByteArray) (a b : Int) (i : Nat) : Prop := Bth P i (fun k => spec_l16Read.f k a b ps P (i : Int)) (fun k => pv.value k ps (sfx P i) a b)
theorem Bth.none {P : ByteArray} {i : Nat} {f : Nat → Option (Int × Int)} {g : Nat → Option (Int × Bool × ByteArray)} (K : Nat) (hf : ∀ k, K ≤ k → ∃ z, f k = some (-1, z)) (hg : ∀ k, K ≤ k → ∃ x y, g k = some (x, false, y)) : Bth P i f g :=
  ⟨K, .none, (fun _ _ h => by cases h), fun k hk => by
    obtain ⟨z, hz⟩ := hf k hk
    obtain ⟨x, y, hy⟩ := hg k hk
    exact ⟨⟨_, hz, rfl⟩, ⟨_, hy, rfl⟩⟩⟩
theorem Bth.some {P : ByteArray} {i : Nat} {f : Nat → Option (Int × Int)} {g : Nat → Option (Int × Bool × ByteArray)} (K : Nat) (v : Int) (e : Nat) (h : (0 ≤ v ∧ v ≤ 1000 * ((e : Int) - (i : Int))) ∧ i < e ∧ e ≤ P.size) (hf : ∀ k, K ≤ k → f k = some (v, (e : Int))) (hg : ∀ k, K ≤ k → g k = some (v, true, sfx P e)) : Bth P i f g :=
  ⟨K, .some (v, e), (fun _ _ q => by
    injection q with q
    injection q with q1 q2
    subst q1; subst q2
    exact h), fun k hk => ⟨⟨_, hf k hk, rfl⟩, ⟨_, hg k hk, rfl⟩⟩⟩
theorem prefix_at (P : ByteArray) (e : Nat) (he : e ≤ P.size) : Lib.hasPrefix (sfx P e).data.toList [41] = true ↔ e < P.size ∧ bt P (e : Int) = 41 := by
  unfold Lib.hasPrefix
  rw [sfx_list]
  rcases Nat.lt_or_ge e P.size with h | h
  · obtain ⟨u, h1, h2⟩ := bt_u8 P e h
    have h3 := List.getElem?_eq_some_iff.1 h1
    obtain ⟨h4, h5⟩ := h3
    rw [List.drop_eq_getElem_cons h4, h5, h2]
    simp only [List.isPrefixOf, Bool.and_true, beq_iff_eq, h, true_and]
    constructor
    · intro q
      rw [← q]
      rfl
    · intro q
      apply UInt8.toNat_inj.1
      show 41 = u.toNat
      omega
  · rw [List.drop_of_length_le (by rw [len_data]; exact h)]
    simp only [List.isPrefixOf, Bool.false_eq_true, false_iff]
    omega
section
variable (ps : List (List Int)) (P : ByteArray) (hP : P.size ≤ 2000)
include hP
/-- Behind a cut's head: two parts and a bracket. -/
theorem tail_both (a1 b1 a2 b2 : Int) (i e : Nat) (hie : i < e) (hes : e < P.size) (h1 : Out ps P a1 b1 (e + 1)) (h2 : ∀ e1, e + 1 < e1 → e1 ≤ P.size → Out ps P a2 b2 e1) :
    Bth P i (fun k => (spec_l16Read.f (k + 1) a1 b1 ps P ((e + 1 : Nat) : Int)).bind fun t => if t.1 < 0 then some ((-1), (i : Int)) else ((spec_l16Read.f k a2 b2 ps P t.2).bind fun u => if u.1 < 0 then some ((-1), (i : Int)) else (if u.2 ≥ (P.size : Int) then some ((-1), (i : Int)) else (if 0 ≤ u.2 then (if u.2 < (P.size : Int) then (if (bt P u.2) = 41 then some (wrap64 (t.1 + u.1), wrap64 (u.2 + 1)) else some ((-1), (i : Int))) else none) else none))))
      (fun k => (pv.value k ps (sfx P (e + 1)) a1 b1).bind fun t => if t.2.1 = true then ((pv.value k ps t.2.2 a2 b2).bind fun u => if u.2.1 = true ∧ Lib.hasPrefix u.2.2.data.toList [41] = true then some (wrap64 (t.1 + u.1), true, u.2.2.extract 1 u.2.2.size) else some (0, false, u.2.2)) else some (0, false, t.2.2)) := by
  obtain ⟨K1, o1, g1, q1⟩ := h1
  have q1 : ∀ k, K1 ≤ k → (∃ r, spec_l16Read.f k a1 b1 ps P ((e + 1 : Nat) : Int) = some r ∧ SpecIs o1 r) ∧ (∃ r, pv.value k ps (sfx P (e + 1)) a1 b1 = some r ∧ ImplIs P o1 r) := q1
  cases o1 with
  | none =>
    refine Bth.none K1 (fun k hk => ?_) (fun k hk => ?_)
    · obtain ⟨⟨r, hr, hs⟩, _⟩ := q1 (k + 1) (by omega)
      have hs : r.1 = -1 := hs
      exact ⟨i, by rw [hr, Option.bind_some, hs, if_pos (by decide)]⟩
    · obtain ⟨_, ⟨r, hr, hs⟩⟩ := q1 k hk
      have hs : r.2.1 = false := hs
      exact ⟨0, r.2.2, by rw [hr, Option.bind_some, hs, if_neg (by decide)]⟩
  | some p =>
    obtain ⟨v1, e1⟩ := p
    obtain ⟨⟨y1, y2⟩, w3, w4⟩ := g1 v1 e1 rfl
    obtain ⟨K2, o2, g2, q2⟩ := h2 e1 w3 w4
    have q2 : ∀ k, K2 ≤ k → (∃ r, spec_l16Read.f k a2 b2 ps P (e1 : Int) = some r ∧ SpecIs o2 r) ∧ (∃ r, pv.value k ps (sfx P e1) a2 b2 = some r ∧ ImplIs P o2 r) := q2
    have hf1 : ∀ k, K1 ≤ k → spec_l16Read.f k a1 b1 ps P ((e + 1 : Nat) : Int) = some (v1, (e1 : Int)) := fun k hk => by
      obtain ⟨⟨r, hr, hs⟩, _⟩ := q1 k hk
      have hs : r = (v1, (e1 : Int)) := hs
      rw [← hs]; exact hr
    have hg1 : ∀ k, K1 ≤ k → pv.value k ps (sfx P (e + 1)) a1 b1 = some (v1, true, sfx P e1) := fun k hk => by
      obtain ⟨_, ⟨r, hr, hs⟩⟩ := q1 k hk
      have hs : r = (v1, true, sfx P e1) := hs
      rw [← hs]; exact hr
    have n1 : ¬ v1 < 0 := by omega
    cases o2 with
    | none =>
      refine Bth.none (K1 + K2) (fun k hk => ?_) (fun k hk => ?_)
      · obtain ⟨⟨r, hr, hs⟩, _⟩ := q2 k (by omega)
        have hs : r.1 = -1 := hs
        exact ⟨i, by rw [hf1 (k + 1) (by omega), Option.bind_some, if_neg n1, hr, Option.bind_some, hs, if_pos (by decide)]⟩
      · obtain ⟨_, ⟨r, hr, hs⟩⟩ := q2 k (by omega)
        have hs : r.2.1 = false := hs
        exact ⟨0, r.2.2, by rw [hg1 k (by omega), Option.bind_some, if_pos rfl, hr, Option.bind_some, hs, if_neg (by simp)]⟩
    | some p2 =>
      obtain ⟨v2, e2⟩ := p2
      obtain ⟨⟨x1, x2⟩, x3, x4⟩ := g2 v2 e2 rfl
      have hf2 : ∀ k, K2 ≤ k → spec_l16Read.f k a2 b2 ps P (e1 : Int) = some (v2, (e2 : Int)) := fun k hk => by
        obtain ⟨⟨r, hr, hs⟩, _⟩ := q2 k hk
        have hs : r = (v2, (e2 : Int)) := hs
        rw [← hs]; exact hr
      have hg2 : ∀ k, K2 ≤ k → pv.value k ps (sfx P e1) a2 b2 = some (v2, true, sfx P e2) := fun k hk => by
        obtain ⟨_, ⟨r, hr, hs⟩⟩ := q2 k hk
        have hs : r = (v2, true, sfx P e2) := hs
        rw [← hs]; exact hr
      have n2 : ¬ v2 < 0 := by omega
      have hpre := prefix_at P e2 x4
      by_cases c : e2 < P.size ∧ bt P (e2 : Int) = 41
      · refine Bth.some (K1 + K2) (v1 + v2) (e2 + 1) ⟨⟨by omega, by omega⟩, by omega, by omega⟩ (fun k hk => ?_) (fun k hk => ?_)
        · rw [hf1 (k + 1) (by omega), Option.bind_some, if_neg n1, hf2 k (by omega), Option.bind_some, if_neg n2, if_neg (by show ¬ (e2 : Int) ≥ _; omega), if_pos (by show 0 ≤ (e2 : Int); omega), if_pos (by show (e2 : Int) < _; omega), if_pos c.2, w64 (x := v1 + v2) (by omega) (by omega), w1 (show e2 ≤ 140737488355328 by omega)]
        · have hz := sfx_extract P e2 1 (by omega)
          rw [hg1 k (by omega), Option.bind_some, if_pos rfl, hg2 k (by omega), Option.bind_some, if_pos ⟨rfl, hpre.2 c⟩, w64 (x := v1 + v2) (by omega) (by omega)]
          exact congrArg (fun z => some (v1 + v2, true, z)) hz
      · refine Bth.none (K1 + K2) (fun k hk => ⟨i, ?_⟩) (fun k hk => ⟨0, sfx P e2, ?_⟩)
        · rw [hf1 (k + 1) (by omega), Option.bind_some, if_neg n1, hf2 k (by omega), Option.bind_some, if_neg n2]
          by_cases c2 : e2 < P.size
          · rw [if_neg (by show ¬ (e2 : Int) ≥ _; omega), if_pos (by show 0 ≤ (e2 : Int); omega), if_pos (by show (e2 : Int) < _; omega), if_neg (fun q => c ⟨c2, q⟩)]
          · rw [if_pos (by show (e2 : Int) ≥ _; omega)]
        · rw [hg1 k (by omega), Option.bind_some, if_pos rfl, hg2 k (by omega), Option.bind_some, if_neg (fun q => c (hpre.1 q.2))]
theorem l0_run (a b c : Int) (i : Nat) (d : Nat) : ∀ x : Nat, i + 4 - x = d → i + 1 ≤ x → x ≤ i + 4 → x ≤ P.size → (∀ y, i + 1 ≤ y → y < x → Dig P y) →
    ∃ e, x ≤ e ∧ e ≤ i + 4 ∧ e ≤ P.size ∧ (∀ y, i + 1 ≤ y → y < e → Dig P y) ∧ (e = i + 4 ∨ e = P.size ∨ ¬ Dig P e) ∧ ∀ k, spec_l16Read.l0 (k + 1 + (e - x)) a b ps P (i : Int) c (x : Int) = spec_l16Read.j3 k a b ps P (i : Int) c (e : Int) := by
  induction d with
  | zero =>
    intro x hd h1 h2 h3 h4
    refine ⟨x, Nat.le_refl _, h2, h3, h4, Or.inl (by omega), fun k => ?_⟩
    rw [Nat.sub_self, Nat.add_zero]
    simp only [spec_l16Read.l0]
    by_cases q : (x : Int) < (P.size : Int)
    · rw [if_pos q, if_neg (by rw [w64 (by omega) (by omega)]; omega)]
    · rw [if_neg q]
  | succ d ih =>
    intro x hd h1 h2 h3 h4
    by_cases q : x < P.size ∧ Dig P x
    · obtain ⟨e, g1, g2, g3, g4, g5, g6⟩ := ih (x + 1) (by omega) (by omega) (by omega) (by omega) (fun y y1 y2 => by
        by_cases z : y = x
        · rw [z]; exact q.2
        · exact h4 y y1 (by omega))
      refine ⟨e, by omega, g2, g3, g4, g5, fun k => ?_⟩
      rw [← g6 k, show k + 1 + (e - x) = (k + 1 + (e - (x + 1))) + 1 by omega]
      simp only [spec_l16Read.l0]
      rw [if_pos (by omega), if_pos (by rw [w64 (by omega) (by omega)]; omega), if_pos (by omega), if_pos q.2.1, if_pos q.2.2, w1 (show x ≤ 140737488355328 by omega)]
    · refine ⟨x, Nat.le_refl _, h2, h3, h4, Or.inr ?_, fun k => ?_⟩
      · rcases Nat.lt_or_ge x P.size with z | z
        · exact Or.inr (fun w => q ⟨z, w⟩)
        · exact Or.inl (by omega)
      · rw [Nat.sub_self, Nat.add_zero]
        simp only [spec_l16Read.l0]
        by_cases q1 : (x : Int) < (P.size : Int)
        · rw [if_pos q1, if_pos (by rw [w64 (by omega) (by omega)]; omega), if_pos (by omega)]
          by_cases q2 : bt P (x : Int) ≥ 48
          · rw [if_pos q2, if_neg (fun w => q ⟨by omega, q2, w⟩)]
          · rw [if_neg q2]
        · rw [if_neg q1]
/-- A cut: both read its number alike, then the tail. -/
theorem cut_both (c : Int) (x : Bool) (hc : c = if x = true then 118 else 104) (i : Nat) (hi : i < P.size) (hb : bt P (i : Int) = c) (a b : Int) (ha : 1 ≤ a ∧ a ≤ 16) (hbb : 1 ≤ b ∧ b ≤ 16)
    (ih : ∀ j, i < j → j ≤ P.size → ∀ a b : Int, 1 ≤ a ∧ a ≤ 16 → 1 ≤ b ∧ b ≤ 16 → Out ps P a b j) :
    Bth P i (fun k => spec_l16Read.f k a b ps P (i : Int)) (fun k => pv.cut k ps (sfx P (i + 1)) a b x) := by
  have hc1 : ¬ c = 46 := by rw [hc]; split <;> decide
  have hc2 : c ≥ 97 := by rw [hc]; split <;> decide
  have hc3 : decide (c ≤ 102) = false := by rw [hc]; split <;> decide
  obtain ⟨e, e1, e2, e3, e4, e5, e6⟩ := l0_run ps P hP a b c i _ (i + 1) rfl (Nat.le_refl _) (by omega) (by omega) (fun y y1 y2 => by omega)
  have w1i : wrap64 ((i : Int) + 1) = ((i + 1 : Nat) : Int) := w1 (show i ≤ 140737488355328 by omega)
  have F : ∀ k, spec_l16Read.f (k + 1 + (e - (i + 1)) + 3) a b ps P (i : Int) = spec_l16Read.j3 k a b ps P (i : Int) c (e : Int) := fun k => by
    rw [← e6 k]
    have s1 : spec_l16Read.f (k + 1 + (e - (i + 1)) + 3) a b ps P (i : Int) = spec_l16Read.j0 (k + 1 + (e - (i + 1)) + 2) a b ps P (i : Int) c false := by
      simp only [spec_l16Read.f]
      rw [if_neg (by omega), if_pos (by omega), if_pos (by omega), hb, if_neg hc1, if_pos hc2, hc3]
    have s2 : spec_l16Read.j0 (k + 1 + (e - (i + 1)) + 2) a b ps P (i : Int) c false = spec_l16Read.j1 (k + 1 + (e - (i + 1)) + 1) a b ps P (i : Int) c false := by
      simp only [spec_l16Read.j0]
      rw [if_neg (by decide)]
      cases x
      · rw [if_neg (by rw [hc]; decide), hc]
        rfl
      · rw [if_pos (by rw [hc]; decide)]
    have s3 : spec_l16Read.j1 (k + 1 + (e - (i + 1)) + 1) a b ps P (i : Int) c false = spec_l16Read.l0 (k + 1 + (e - (i + 1))) a b ps P (i : Int) c ((i + 1 : Nat) : Int) := by
      simp only [spec_l16Read.j1]
      rw [if_neg (by decide), w1i]
    rw [s1, s2, s3]
  have hts : (P.extract (i + 1) e).size = e - (i + 1) := extract_size P (i + 1) e (by omega) e3
  obtain ⟨v, ok, p1, p2⟩ := parse_ex (P.extract (i + 1) e) (by omega) (fun j hj => by
    unfold Dig
    rw [bt_extract P (i + 1) e j (by omega) e3]
    exact e4 (i + 1 + j) (by omega) (by omega))
  have J3 : ∀ k, 30 ≤ k → spec_l16Read.j3 (k + 1) a b ps P (i : Int) c (e : Int) = if ok = true then (if e < P.size then spec_l16Read.j4 k a b ps P (i : Int) c (e : Int) v (bt P (e : Int) != 40) else spec_l16Read.j4 k a b ps P (i : Int) c (e : Int) v true) else spec_l16Read.j4 k a b ps P (i : Int) c (e : Int) v true := fun k hk => by
    simp only [spec_l16Read.j3, w1i]
    rw [if_pos (by omega), if_pos (by omega), if_pos (by omega), Int.toNat_natCast, Int.toNat_natCast, p1 k hk, Option.bind_some]
    by_cases q : ok = true
    · rw [if_pos q, if_pos q]
      by_cases q1 : e < P.size
      · rw [if_neg (by omega), if_pos (by omega), if_pos (by omega), if_pos q1]
      · rw [if_pos (by omega), if_neg q1]
    · rw [if_neg q, if_neg q]
  have J4t : ∀ k, spec_l16Read.j4 (k + 1) a b ps P (i : Int) c (e : Int) v true = some ((-1), (i : Int)) := fun k => by
    simp only [spec_l16Read.j4, if_true]
  have J4f : ∀ k, spec_l16Read.j4 (k + 2) a b ps P (i : Int) c (e : Int) v false = if 1 ≤ v ∧ v ≤ (if x = true then a else b) - 1 then (if x = true then ((spec_l16Read.f k v b ps P ((e + 1 : Nat) : Int)).bind fun bt200 => spec_l16Read.j6 k a b ps P (i : Int) c (wrap64 (a - v)) bt200.1 bt200.2) else ((spec_l16Read.f k a v ps P ((e + 1 : Nat) : Int)).bind fun bt202 => spec_l16Read.j6 k a b ps P (i : Int) c (wrap64 (b - v)) bt202.1 bt202.2)) else some ((-1), (i : Int)) := fun k => by
    simp only [spec_l16Read.j4, spec_l16Read.j5, Bool.false_eq_true, if_false, l01In_f, Option.bind_some, w1 (show e ≤ 140737488355328 by omega)]
    cases x
    · rw [if_pos (by rw [hc]; decide), w64 (x := b - 1) (by omega) (by omega)]
      simp only [Bool.false_eq_true, if_false, show ¬ c = 118 by rw [hc]; decide, decide_eq_true_eq]
    · rw [if_neg (by rw [hc]; decide), w64 (x := a - 1) (by omega) (by omega)]
      simp only [if_true, show c = 118 by rw [hc]; decide, decide_eq_true_eq]
  have J6 : ∀ k (d r1 r2 : Int), spec_l16Read.j6 (k + 1) a b ps P (i : Int) c d r1 r2 = if r1 < 0 then some ((-1), (i : Int)) else ((spec_l16Read.f k (if x = true then d else a) (if x = true then b else d) ps P r2).bind fun u => if u.1 < 0 then some ((-1), (i : Int)) else (if u.2 ≥ (P.size : Int) then some ((-1), (i : Int)) else (if 0 ≤ u.2 then (if u.2 < (P.size : Int) then (if (bt P u.2) = 41 then some (wrap64 (r1 + u.1), wrap64 (u.2 + 1)) else some ((-1), (i : Int))) else none) else none))) := fun k d r1 r2 => by
    simp only [spec_l16Read.j6]
    cases x
    · simp only [Bool.false_eq_true, if_false, show ¬ c = 118 by rw [hc]; decide]
    · simp only [if_true, show c = 118 by rw [hc]; decide]
  have hside : 1 ≤ (if x = true then a else b) ∧ (if x = true then a else b) ≤ 16 := by cases x <;> simp <;> omega
  by_cases hit : ∃ n j : Nat, 1 ≤ n ∧ (n : Int) < (if x = true then a else b) ∧ i + 1 ≤ j ∧ j < P.size ∧ bt P (j : Int) = 40 ∧ P.extract (i + 1) j = numK n
  · obtain ⟨n, j, h1, h2, h3, h4, h5, h6⟩ := hit
    have hn16 : n < 16 := by omega
    obtain ⟨f1, f2, _, ⟨f3, f4⟩, _⟩ := numK_facts ⟨n, hn16⟩
    have f1 : spec_ParseInt.f 30 (numK n) = some ((n : Int), true) := f1
    have f2 : parseK (numK n) = some (n : Int) := f2
    have f3 : 1 ≤ (numK n).size := f3
    have f4 : (numK n).size ≤ 2 := f4
    have hjs : (numK n).size = j - (i + 1) := by rw [← h6]; exact extract_size P (i + 1) j h3 (by omega)
    have hdig : ∀ y, i + 1 ≤ y → y < j → Dig P y := fun y y1 y2 => by
      have := numK_dig n hn16 (y - (i + 1)) (by omega)
      rw [← h6] at this
      unfold Dig at this ⊢
      rw [bt_extract P (i + 1) j (y - (i + 1)) (by omega) (by omega), show i + 1 + (y - (i + 1)) = y by omega] at this
      exact this
    have hej : e = j := by
      rcases Nat.lt_trichotomy e j with z | z | z
      · rcases e5 with q | q | q
        · omega
        · omega
        · exact absurd (hdig e e1 z) q
      · exact z
      · have := e4 j h3 z
        unfold Dig at this
        omega
    subst hej
    have hv : v = (n : Int) ∧ ok = true := by
      have q1 := p1 30 (Nat.le_refl _)
      rw [h6, f1] at q1
      have q2 := Option.some.inj q1
      exact ⟨(congrArg Prod.fst q2).symm, (congrArg Prod.snd q2).symm⟩
    obtain ⟨rfl, rfl⟩ := hv
    have hci := cutI_at P (i + 1) e e1 h4 h5 (fun y y1 y2 => by
      have := hdig y y1 y2
      unfold Dig at this
      omega)
    have hcA := cutA_at P (i + 1) e e1 (by omega) hci
    have hcB := cutB_at P (i + 1) e e1 h4 hci
    have hpk : parseK (cutA (sfx P (i + 1))) = some (n : Int) := by rw [hcA, h6]; exact f2
    have hg : (parseK (cutA (sfx P (i + 1)))).getD 0 = (n : Int) := by rw [hpk]; rfl
    have I : ∀ k, pv.cut (k + 1) ps (sfx P (i + 1)) a b x = ((pv.value k ps (sfx P (e + 1)) (if x = true then (n : Int) else a) (if x = true then b else (n : Int))).bind fun t => if t.2.1 = true then ((pv.value k ps t.2.2 (if x = true then wrap64 (a - (n : Int)) else a) (if x = true then b else wrap64 (b - (n : Int)))).bind fun u => if u.2.1 = true ∧ Lib.hasPrefix u.2.2.data.toList [41] = true then some (wrap64 (t.1 + u.1), true, u.2.2.extract 1 u.2.2.size) else some (0, false, u.2.2)) else some (0, false, t.2.2)) := fun k => by
      simp only [pv.cut, hg, hcB]
      rw [if_pos ⟨⟨by omega, by rw [hpk]; rfl⟩, by omega, h2⟩]
    have S : ∀ k, spec_l16Read.f (k + 36 + (e - (i + 1)) + 3) a b ps P (i : Int) = ((spec_l16Read.f (k + 32) (if x = true then (n : Int) else a) (if x = true then b else (n : Int)) ps P ((e + 1 : Nat) : Int)).bind fun t => if t.1 < 0 then some ((-1), (i : Int)) else ((spec_l16Read.f (k + 31) (if x = true then wrap64 (a - (n : Int)) else a) (if x = true then b else wrap64 (b - (n : Int))) ps P t.2).bind fun u => if u.1 < 0 then some ((-1), (i : Int)) else (if u.2 ≥ (P.size : Int) then some ((-1), (i : Int)) else (if 0 ≤ u.2 then (if u.2 < (P.size : Int) then (if (bt P u.2) = 41 then some (wrap64 (t.1 + u.1), wrap64 (u.2 + 1)) else some ((-1), (i : Int))) else none) else none)))) := fun k => by
      rw [show k + 36 + (e - (i + 1)) + 3 = (k + 35) + 1 + (e - (i + 1)) + 3 by omega, F (k + 35), J3 (k + 34) (by omega), if_pos rfl, if_pos h4, h5, show ((40 : Int) != 40) = false from rfl, J4f (k + 32), if_pos ⟨by omega, by omega⟩]
      cases x
      · simp only [Bool.false_eq_true, if_false]
        congr 1
        funext t
        rw [J6 (k + 31)]
        simp only [Bool.false_eq_true, if_false]
      · simp only [if_true]
        congr 1
        funext t
        rw [J6 (k + 31)]
        simp only [if_true]
    have hwa : ∀ s : Int, 1 ≤ s → s ≤ 16 → (n : Int) < s → wrap64 (s - (n : Int)) = s - (n : Int) := fun s s1 s2 s3 => w64 (by omega) (by omega)
    have T := tail_both ps P hP (if x = true then (n : Int) else a) (if x = true then b else (n : Int)) (if x = true then wrap64 (a - (n : Int)) else a) (if x = true then b else wrap64 (b - (n : Int))) i e (by omega) h4
      (ih (e + 1) (by omega) (by omega) _ _ (by cases x <;> simp at h2 ⊢ <;> omega) (by cases x <;> simp at h2 ⊢ <;> omega))
      (fun e1 g1 g2 => ih e1 (by omega) g2 _ _ (by cases x <;> simp at h2 ⊢ <;> first | omega | (rw [hwa a (by omega) (by omega) h2]; omega)) (by cases x <;> simp at h2 ⊢ <;> first | omega | (rw [hwa b (by omega) (by omega) h2]; omega)))
    obtain ⟨K, o, g1, g2⟩ := T
    refine ⟨K + 60, o, g1, fun k hk => ⟨?_, ?_⟩⟩
    · obtain ⟨⟨r, r1, r2⟩, _⟩ := g2 (k - 39 - (e - (i + 1)) + 31) (by omega)
      refine ⟨r, ?_, r2⟩
      show spec_l16Read.f k a b ps P (i : Int) = some r
      rw [show k = (k - 39 - (e - (i + 1))) + 36 + (e - (i + 1)) + 3 by omega, S]
      exact r1
    · obtain ⟨_, ⟨r, r1, r2⟩⟩ := g2 (k - 1) (by omega)
      refine ⟨r, ?_, r2⟩
      show pv.cut k ps (sfx P (i + 1)) a b x = some r
      rw [show k = (k - 1) + 1 by omega, I]
      exact r1
  · refine Bth.none 60 (fun k hk => ⟨(i : Int), ?_⟩) (fun k hk => ⟨0, sfx P (i + 1), ?_⟩)
    · rw [show k = (k - 4 - (e - (i + 1))) + 1 + (e - (i + 1)) + 3 by omega, F, show k - 4 - (e - (i + 1)) = (k - 5 - (e - (i + 1))) + 1 by omega, J3 _ (by omega), show k - 5 - (e - (i + 1)) = (k - 7 - (e - (i + 1))) + 2 by omega]
      by_cases q : ok = true
      · rw [if_pos q]
        by_cases q1 : e < P.size
        · rw [if_pos q1]
          by_cases q2 : bt P (e : Int) = 40
          · rw [q2, show ((40 : Int) != 40) = false from rfl, J4f]
            by_cases q3 : 1 ≤ v ∧ v ≤ (if x = true then a else b) - 1
            · exact absurd ⟨v.toNat, e, by omega, by omega, e1, q1, q2, p2 q q3.1 (by omega)⟩ hit
            · rw [if_neg q3]
          · rw [show (bt P (e : Int) != 40) = true from bne_iff_ne.mpr q2]
            exact J4t _
        · rw [if_neg q1]
          exact J4t _
      · rw [if_neg q]
        exact J4t _
    · rw [show k = (k - 1) + 1 by omega]
      simp only [pv.cut]
      rw [if_neg]
      rintro ⟨⟨q1, q2⟩, q3, q4⟩
      obtain ⟨j, g1, g2, g3, g4⟩ := cutI_hit P (i + 1) (by omega) q1
      have hcA := cutA_at P (i + 1) j g1 (by omega) g4
      obtain ⟨z, hz⟩ := Option.isSome_iff_exists.1 q2
      rw [hz] at q3 q4
      have q3 : 1 ≤ z := q3
      have q4 : z < (if x = true then a else b) := q4
      have hnum := parseK_num hz q3 (by omega)
      exact hit ⟨z.toNat, j, by omega, by omega, g1, g2, g3, by rw [← hcA]; exact hnum⟩
/-- From every place on both read alike. -/
theorem out_all (few : ps.length ≤ 6) (hall : ∀ q : Int, 0 ≤ q → q < (ps.length : Int) → (rd_L1 ps q).length = 3 ∧ 0 ≤ rd (rd_L1 ps q) 2 ∧ rd (rd_L1 ps q) 2 ≤ 1000) (m : Nat) :
    ∀ (i : Nat), P.size - i ≤ m → i ≤ P.size → ∀ a b : Int, 1 ≤ a ∧ a ≤ 16 → 1 ≤ b ∧ b ≤ 16 → Out ps P a b i := by
  induction m with
  | zero =>
    intro i hm hi a b ha hb
    have hz := sfx_size P i hi
    refine Bth.none 1 (fun k hk => ⟨(i : Int), ?_⟩) (fun k hk => ⟨0, sfx P i, ?_⟩)
    · rw [show k = (k - 1) + 1 by omega]
      simp only [spec_l16Read.f]
      rw [if_pos (by omega)]
    · rw [show k = (k - 1) + 1 by omega]
      simp only [pv.value]
      rw [if_pos (by omega)]
  | succ m ihm =>
    intro i hm hi a b ha hb
    rcases Nat.lt_or_ge i P.size with hlt | hge
    · have ih : ∀ j, i < j → j ≤ P.size → ∀ a b : Int, 1 ≤ a ∧ a ≤ 16 → 1 ≤ b ∧ b ≤ 16 → Out ps P a b j := fun j j1 j2 => ihm j (by omega) j2
      have hz := sfx_size P i hi
      have h0 : bt (sfx P i) 0 = bt P (i : Int) := by
        have := bt_sfx P i 0 (by omega)
        simpa using this
      have hx1 : (sfx P i).extract 1 (sfx P i).size = sfx P (i + 1) := sfx_extract P i 1 (by omega)
      obtain ⟨c, hc⟩ : ∃ c_, bt P (i : Int) = c_ := ⟨_, rfl⟩
      have hr := bt_range P (i : Int)
      rw [hc] at hr
      have W1 := Aside0.mk (show wrap64 ((i : Int) + 1) = ((i + 1 : Nat) : Int) from w1 (show i ≤ 140737488355328 by omega))
      have F : ∀ k, spec_l16Read.f (k + 1) a b ps P (i : Int) = if c = 46 then some (0, ((i + 1 : Nat) : Int)) else (if c ≥ 97 then spec_l16Read.j0 k a b ps P (i : Int) c (decide (c ≤ 102)) else spec_l16Read.j0 k a b ps P (i : Int) c false) := fun k => by
        simp only [spec_l16Read.f, hc]
        rw [if_neg (by omega), if_pos (by omega), if_pos (by omega), W1.out]
      have G : ∀ k, pv.value (k + 1) ps (sfx P i) a b = if c = 46 then some (0, true, sfx P (i + 1)) else (if c = 118 then pv.cut k ps (sfx P (i + 1)) a b true else (if c = 104 then pv.cut k ps (sfx P (i + 1)) a b false else (if 97 ≤ c ∧ c - 97 < (ps.length : Int) then (if (rd_L1 ps (c - 97)).length = 3 then some (rd (rd_L1 ps (c - 97)) 2, (decide (rd (rd_L1 ps (c - 97)) 0 = a) && decide (rd (rd_L1 ps (c - 97)) 1 = b)), sfx P (i + 1)) else none) else some (0, false, sfx P (i + 1))))) := fun k => by
        simp only [pv.value, h0, hx1, hc]
        rw [if_neg (by omega)]
      by_cases c1 : c = 46
      · refine Bth.some 1 0 (i + 1) ⟨⟨by omega, by omega⟩, by omega, by omega⟩ (fun k hk => ?_) (fun k hk => ?_)
        · rw [show k = (k - 1) + 1 by omega, F, if_pos c1]
        · rw [show k = (k - 1) + 1 by omega, G, if_pos c1]
      · by_cases c2 : c = 118
        · obtain ⟨K, o, g1, g2⟩ := cut_both ps P hP c true (by rw [c2]; rfl) i hlt hc a b ha hb ih
          refine ⟨K + 1, o, g1, fun k hk => ⟨(g2 k (by omega)).1, ?_⟩⟩
          obtain ⟨r, r1, r2⟩ := (g2 (k - 1) (by omega)).2
          refine ⟨r, ?_, r2⟩
          show pv.value k ps (sfx P i) a b = some r
          rw [show k = (k - 1) + 1 by omega, G, if_neg c1, if_pos c2]
          exact r1
        · by_cases c3 : c = 104
          · obtain ⟨K, o, g1, g2⟩ := cut_both ps P hP c false (by rw [c3]; rfl) i hlt hc a b ha hb ih
            refine ⟨K + 1, o, g1, fun k hk => ⟨(g2 k (by omega)).1, ?_⟩⟩
            obtain ⟨r, r1, r2⟩ := (g2 (k - 1) (by omega)).2
            refine ⟨r, ?_, r2⟩
            show pv.value k ps (sfx P i) a b = some r
            rw [show k = (k - 1) + 1 by omega, G, if_neg c1, if_neg c2, if_pos c3]
            exact r1
          · by_cases c4 : 97 ≤ c ∧ c ≤ 102
            · have hw : (c - 97) % 256 = c - 97 := by omega
              have FW : ∀ k, spec_l16Read.f (k + 2) a b ps P (i : Int) = spec_l16Read.j0 (k + 1) a b ps P (i : Int) c true := fun k => by
                rw [F, if_neg c1, if_pos c4.1, decide_eq_true c4.2]
              by_cases c5 : c - 97 < (ps.length : Int)
              · obtain ⟨h3, hv0, hv1⟩ := hall (c - 97) (by omega) c5
                by_cases m : rd (rd_L1 ps (c - 97)) 0 = a ∧ rd (rd_L1 ps (c - 97)) 1 = b
                · refine Bth.some 2 (rd (rd_L1 ps (c - 97)) 2) (i + 1) ⟨⟨by omega, by omega⟩, by omega, by omega⟩ (fun k hk => ?_) (fun k hk => ?_)
                  · rw [show k = (k - 2) + 2 by omega, FW]
                    simp only [spec_l16Read.j0, hw, h3, if_true]
                    rw [if_neg (by omega), if_pos (by omega), if_pos c5, if_pos (by decide), if_pos m.1, if_pos (by decide), if_pos m.2, if_pos (by decide), W1.out]
                  · rw [show k = (k - 1) + 1 by omega, G, if_neg c1, if_neg c2, if_neg c3, if_pos ⟨c4.1, c5⟩, if_pos h3, decide_eq_true m.1, decide_eq_true m.2]
                    rfl
                · refine Bth.none 2 (fun k hk => ⟨(i : Int), ?_⟩) (fun k hk => ⟨rd (rd_L1 ps (c - 97)) 2, sfx P (i + 1), ?_⟩)
                  · rw [show k = (k - 2) + 2 by omega, FW]
                    simp only [spec_l16Read.j0, hw, h3, if_true]
                    rw [if_neg (by omega), if_pos (by omega), if_pos c5, if_pos (by decide)]
                    by_cases m1 : rd (rd_L1 ps (c - 97)) 0 = a
                    · rw [if_pos m1, if_pos (by decide), if_neg (fun q => m ⟨m1, q⟩)]
                    · rw [if_neg m1]
                  · rw [show k = (k - 1) + 1 by omega, G, if_neg c1, if_neg c2, if_neg c3, if_pos ⟨c4.1, c5⟩, if_pos h3]
                    congr 2
                    by_cases m1 : rd (rd_L1 ps (c - 97)) 0 = a
                    · have m2 : ¬ rd (rd_L1 ps (c - 97)) 1 = b := fun q => m ⟨m1, q⟩
                      simp [m2]
                    · simp [m1]
              · refine Bth.none 2 (fun k hk => ⟨(i : Int), ?_⟩) (fun k hk => ⟨0, sfx P (i + 1), ?_⟩)
                · rw [show k = (k - 2) + 2 by omega, FW]
                  simp only [spec_l16Read.j0, hw, if_true]
                  rw [if_pos (by omega)]
                · rw [show k = (k - 1) + 1 by omega, G, if_neg c1, if_neg c2, if_neg c3, if_neg (fun q => c5 q.2)]
            · refine Bth.none 3 (fun k hk => ⟨(i : Int), ?_⟩) (fun k hk => ⟨0, sfx P (i + 1), ?_⟩)
              · rw [show k = (k - 3) + 3 by omega, F, if_neg c1]
                have hj : spec_l16Read.j0 (k - 3 + 2) a b ps P (i : Int) c false = some ((-1), (i : Int)) := by
                  have e104 : (c != 104) = true := bne_iff_ne.mpr c3
                  simp only [spec_l16Read.j0, spec_l16Read.j1, Bool.false_eq_true, if_false, if_neg c2, e104, if_true]
                by_cases q : c ≥ 97
                · rw [if_pos q, decide_eq_false (by omega)]
                  exact hj
                · rw [if_neg q]
                  exact hj
              · rw [show k = (k - 1) + 1 by omega, G, if_neg c1, if_neg c2, if_neg c3, if_neg (by omega)]
    · have hz := sfx_size P i hi
      refine Bth.none 1 (fun k hk => ⟨(i : Int), ?_⟩) (fun k hk => ⟨0, sfx P i, ?_⟩)
      · rw [show k = (k - 1) + 1 by omega]
        simp only [spec_l16Read.f]
        rw [if_pos (by omega)]
      · rw [show k = (k - 1) + 1 by omega]
        simp only [pv.value]
        rw [if_pos (by omega)]
end
theorem planValue_both (w h : Int) (ps : List (List Int)) (s : ByteArray) : ∃ K r, ∀ k, K ≤ k → spec_PlanValue.f k w h ps s = some r ∧ impl_PlanValue.f k w h ps s = some r := by
  by_cases hp : plateOk w h ps = true
  · by_cases hs : s.size ≤ 2000
    · have hp' := hp
      simp only [plateOk, Bool.and_eq_true, decide_eq_true_eq] at hp'
      obtain ⟨hw, hh, ho⟩ := hp'
      obtain ⟨few, hall⟩ := waresOk_facts ho
      obtain ⟨K, o, g1, g2⟩ := out_all ps s hs few (fun q h0 h1 => by
        have hm : rd_L1 ps q ∈ ps := by
          unfold rd_L1
          rw [List.getD_eq_getElem?_getD, List.getElem?_eq_getElem (by omega)]
          exact List.getElem_mem _
        obtain ⟨z1, _, _, z2⟩ := hall _ hm
        exact ⟨z1, z2⟩) _ 0 (Nat.le_refl _) (Nat.zero_le _) w h hw hh
      have S : ∀ k, 8 < k → spec_PlanValue.f (k + 1) w h ps s = (spec_l16Read.f k w h ps s ((0 : Nat) : Int)).bind fun t => if t.2 = (s.size : Int) then some t.1 else some (-1) := fun k hk => by
        unfold spec_PlanValue.f
        rw [plate_spec w h ps (k + 1) (by omega), hp]
        simp only [Option.bind_some, if_true, spec_PlanValue.j0]
        rw [decide_eq_false (by omega), if_neg (by decide)]
        rfl
      have I : ∀ k, impl_PlanValue.f k w h ps s = (pv.value k ps (sfx s 0) w h).bind fun r => if r.2.1 = true ∧ r.2.2.size = 0 then some r.1 else some (-1) := fun k => by
        unfold impl_PlanValue.f
        rw [plate_impl, hp, Option.bind_some, if_pos rfl, if_pos hs, sfx_zero]
      cases o with
      | none =>
        refine ⟨K + 20, -1, fun k hk => ?_⟩
        obtain ⟨⟨r, r1, r2⟩, _⟩ := g2 (k - 1) (by omega)
        obtain ⟨_, ⟨q, q1, q2⟩⟩ := g2 k (by omega)
        have r1 : spec_l16Read.f (k - 1) w h ps s ((0 : Nat) : Int) = some r := r1
        have q1 : pv.value k ps (sfx s 0) w h = some q := q1
        have r2 : r.1 = -1 := r2
        have q2 : q.2.1 = false := q2
        have e1 := S (k - 1) (by omega)
        rw [show k - 1 + 1 = k by omega, r1, Option.bind_some, r2, ite_self] at e1
        rw [e1, I, q1, Option.bind_some, if_neg (by rw [q2]; simp)]
        exact ⟨rfl, rfl⟩
      | some p =>
        obtain ⟨v, e⟩ := p
        obtain ⟨_, _, hle⟩ := g1 v e rfl
        refine ⟨K + 20, if e = s.size then v else -1, fun k hk => ?_⟩
        obtain ⟨⟨r, r1, r2⟩, _⟩ := g2 (k - 1) (by omega)
        obtain ⟨_, ⟨q, q1, q2⟩⟩ := g2 k (by omega)
        have r1 : spec_l16Read.f (k - 1) w h ps s ((0 : Nat) : Int) = some r := r1
        have q1 : pv.value k ps (sfx s 0) w h = some q := q1
        have r2 : r = (v, (e : Int)) := r2
        have q2 : q = (v, true, sfx s e) := q2
        have e1 := S (k - 1) (by omega)
        rw [show k - 1 + 1 = k by omega, r1, Option.bind_some, r2] at e1
        have hz := sfx_size s e hle
        rw [e1, I, q1, Option.bind_some, q2]
        show (if (e : Int) = (s.size : Int) then some v else some (-1)) = some (if e = s.size then v else -1) ∧ (if (true = true ∧ (sfx s e).size = 0) then some v else some (-1)) = some (if e = s.size then v else -1)
        by_cases c : e = s.size
        · have c1 : (e : Int) = (s.size : Int) := by omega
          have c2 : true = true ∧ (sfx s e).size = 0 := ⟨rfl, by omega⟩
          rw [if_pos c1, if_pos c, if_pos c2]
          exact ⟨rfl, rfl⟩
        · have c1 : ¬ (e : Int) = (s.size : Int) := by omega
          have c2 : ¬ (true = true ∧ (sfx s e).size = 0) := fun z => c (by have := z.2; omega)
          rw [if_neg c1, if_neg c, if_neg c2]
          exact ⟨rfl, rfl⟩
    · refine ⟨20, -1, fun k hk => ?_⟩
      unfold spec_PlanValue.f impl_PlanValue.f
      rw [plate_spec w h ps k (by omega), plate_impl, hp, show k = (k - 1) + 1 by omega]
      simp only [Option.bind_some, if_true, spec_PlanValue.j0, if_neg hs]
      rw [decide_eq_true (by omega), if_pos rfl]
      exact ⟨rfl, trivial⟩
  · refine ⟨20, -1, fun k hk => ?_⟩
    unfold spec_PlanValue.f impl_PlanValue.f
    rw [plate_spec w h ps k (by omega), plate_impl, show k = (k - 1) + 1 by omega]
    simp only [Option.bind_some, if_neg hp, spec_PlanValue.j0, if_true]
    exact ⟨trivial, trivial⟩
theorem FnExactPlanValue : laws_FnExactPlanValue.Pure := by
  intro w h l s _ _ hm _ hw _
  obtain ⟨K, q, hq⟩ := planValue_both w h l s
  obtain ⟨r, h1, h2⟩ := szSS l hm (fun x hx => (hw x hx).1) (2097160 + K) (by omega)
  refine ⟨2097160 + K, ?_⟩
  unfold laws_FnExactPlanValue.f
  by_cases hs : (s.size : Int) > 1048576
  · rw [if_pos hs]
  rw [if_neg hs, h1]
  simp only [Option.bind_some]
  by_cases hr : r < 0
  · rw [if_pos hr]
  · obtain ⟨h3, h4⟩ := h2 (by omega)
    obtain ⟨q1, q2⟩ := hq (2097160 + K) (by omega)
    rw [if_neg hr, toIntSS l h3 h4 _ (by omega)]
    simp only [Option.bind_some, q1, q2, eqIntSS_self l h3 h4 (2097160 + K) (by omega)]
    simp

end Go.Proofs.YthjiccclpalobaaDoor.Pure
