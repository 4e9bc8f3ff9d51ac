/- BestPlan: every number of the table comes from a ware or from a cut, so both texts of a plan are the same. -/
import Derived.Test.YthjiccclpalobaaDoorXFnExactBestPlanx7
namespace Go.Proofs.YthjiccclpalobaaDoor.Pure
open Go.RowKit Go.Proofs.YthjiccclpalobaaDoor.XFnExactBestPlan Go.Proofs.YthjiccclpalobaaDoorW.PrintWords Go.Proofs.YthjiccclpalobaaDoorW.PrintLast
set_option linter.unusedVariables false
set_option linter.unusedSimpArgs false
theorem wf64 {x : Int} (h : (Lit.int .i64 x).wf = true) : -9223372036854775808 ≤ x ∧ x ≤ 9223372036854775807 := by
  simp only [Lit.wf, IntKind.min, IntKind.max, IntKind.signed, IntKind.bits, Bool.and_eq_true, decide_eq_true_eq, if_true] at h
  omega
theorem w64 {x : Int} (h0 : -9223372036854775808 ≤ x) (h1 : x ≤ 9223372036854775807) : wrap64 x = x := by
  unfold wrap64
  omega
theorem succ_of {d k : Nat} (h : d < k) : ∃ m, k = m + 1 := ⟨k - 1, by omega⟩
theorem rd_nat (l : List Int) (i : Nat) : rd l (i : Int) = l.getD i 0 := by simp [rd]
theorem rd_get (l : List Int) (i : Nat) (h : i < l.length) : rd l (i : Int) = l[i] := by simp [rd, List.getD_eq_getElem?_getD, h]
theorem w1 {i : Nat} (h : i ≤ 140737488355328) : wrap64 ((i : Int) + 1) = ((i + 1 : Nat) : Int) := by
  unfold wrap64
  omega
theorem lt_t {i n : Nat} (h : i < n) : ((i : Int) < (n : Int)) = True := eq_true (by omega)
theorem lt_f {i n : Nat} (h : n ≤ i) : ((i : Int) < (n : Int)) = False := eq_false (by omega)
theorem nn_t (i : Nat) : (0 ≤ (i : Int)) = True := eq_true (by omega)
theorem w64n (n : Nat) (h : n ≤ 9223372036854775807) : wrap64 (n : Int) = (n : Int) := w64 (by omega) (by omega)
theorem w64sub (a b c : Nat) (ha : a ≤ 9223372036854775807) (h : a = b + c) : wrap64 ((a : Int) - (b : Int)) = (c : Int) := by
  rw [w64 (by omega) (by omega)]
  omega

theorem toIntS_l (l : List Int) (hl : l.length ≤ 35184372088832) (d : Nat) : ∀ (k : Nat) (ys : List Int) (i : Nat), l.length - i = d → i ≤ l.length → ys.length = l.length → ys.take i = l.take i → d < k → laws_toIntS.l0 k l ys (i : Int) = some l := by
  induction d with
  | zero =>
    intro k ys i hd hi hy ht hk
    obtain ⟨k, rfl⟩ := succ_of hk
    simp only [laws_toIntS.l0]
    rw [if_neg (by omega)]
    have : i = l.length := by omega
    subst this
    rw [List.take_length, ← hy, List.take_length] at ht
    rw [ht]
  | succ d ih =>
    intro k ys i hd hi hy ht hk
    obtain ⟨k, rfl⟩ := succ_of hk
    simp only [laws_toIntS.l0]
    rw [if_pos (by omega), if_pos (by omega), if_pos (by omega), w1 (by omega), rd_get l i (by omega)]
    refine ih k _ (i + 1) (by omega) (by omega) (by simp [hy]) ?_ (by omega)
    rw [Int.toNat_natCast, List.take_add_one, List.take_add_one, List.take_set_of_le (Nat.le_refl _), ht]
    simp [hy, show i < l.length by omega]
theorem toIntS (l : List Int) (hl : l.length ≤ 35184372088832) (k : Nat) (hk : l.length < k) : laws_toIntS.f k l = some l := by
  unfold laws_toIntS.f
  rw [if_pos (by omega), if_pos (by omega)]
  exact toIntS_l l hl l.length k _ 0 (by omega) (by omega) (by simp) rfl hk
theorem eqIntS_l (l m : List Int) (hl : l.length ≤ 35184372088832) (he : l.length = m.length) (d : Nat) : ∀ (k : Nat) (i : Nat), l.length - i = d → i ≤ l.length → d < k → laws_eqIntS.l0 k l m (i : Int) = some (decide (l.drop i = m.drop i)) := by
  induction d with
  | zero =>
    intro k i hd hi hk
    obtain ⟨k, rfl⟩ := succ_of hk
    simp only [laws_eqIntS.l0]
    rw [if_neg (by omega), List.drop_of_length_le (by omega), List.drop_of_length_le (by omega)]
    simp
  | succ d ih =>
    intro k i hd hi hk
    obtain ⟨k, rfl⟩ := succ_of hk
    simp only [laws_eqIntS.l0]
    rw [if_pos (by omega), if_pos (by omega), if_pos (by omega), w1 (by omega), rd_get l i (by omega), rd_get m i (by omega), ih k (i + 1) (by omega) (by omega) (by omega)]
    have h1 := List.drop_eq_getElem_cons (show i < l.length by omega)
    have h2 := List.drop_eq_getElem_cons (show i < m.length by omega)
    by_cases e : l[i]'(by omega) = m[i]'(by omega)
    · rw [if_pos e, h1, h2]
      simp only [List.cons.injEq, e, true_and]
    · rw [if_neg e, h1, h2]
      simp only [List.cons.injEq, e, false_and, decide_false]
theorem eqIntS (l m : List Int) (hl : l.length ≤ 35184372088832) (k : Nat) (hk : l.length < k) : laws_eqIntS.f k l m = some (decide (l = m)) := by
  unfold laws_eqIntS.f
  by_cases e : l.length = m.length
  · rw [if_pos (by omega)]
    have := eqIntS_l l m hl e l.length k 0 (by omega) (by omega) hk
    simpa using this
  · rw [if_neg (by omega)]
    have : l ≠ m := fun h => e (by rw [h])
    simp [this]

theorem within_f (a b c : Int) : impl_within.f a b c = some (decide (b ≤ a ∧ a ≤ c)) := by
  unfold impl_within.f
  by_cases h : a ≥ b
  · rw [if_pos h]; simp [show b ≤ a from h]
  · rw [if_neg h]; simp [show ¬ b ≤ a from h]
theorem l01In_f (a b c : Int) : spec_l01In.f a b c = some (decide (b ≤ a ∧ a ≤ c)) := by
  unfold spec_l01In.f
  by_cases h : a ≥ b
  · rw [if_pos h]; simp [show b ≤ a from h]
  · rw [if_neg h]; simp [show ¬ b ≤ a from h]

theorem rdL_get (l : List (List Int)) (i : Nat) (h : i < l.length) : rd_L1 l (i : Int) = l[i] := by simp [rd_L1, List.getD_eq_getElem?_getD, h]
theorem maxLen_le {n : Nat} (h : n ≤ maxLen) : n ≤ 9223372036854775807 := by unfold maxLen at h; exact h
theorem szS_f (x : List Int) (hx : x.length ≤ maxLen) (left : Int) (h0 : 0 ≤ left) (h1 : left ≤ 1048576) : laws_szIntS.f x left = some (if (x.length : Int) ≤ left then left - (x.length : Int) else -1) := by
  have := maxLen_le hx
  unfold laws_szIntS.f
  rw [w64 (by omega) (by omega)]
  by_cases h : (x.length : Int) ≤ left
  · rw [if_neg (by omega), if_pos h]
  · rw [if_pos (by omega), if_neg h]
theorem szSS_l (l : List (List Int)) (hl : l.length ≤ 1048576) (hx : ∀ x ∈ l, x.length ≤ maxLen) (d : Nat) : ∀ (k i : Nat) (left : Int), l.length - i = d → i ≤ l.length → d < k → 0 ≤ left → left ≤ 1048576 → ∃ r, laws_szIntSS.l0 k l left (i : Int) = some r ∧ (0 ≤ r → ∀ (j : Nat) (hj : j < l.length), i ≤ j → (l[j]).length ≤ 1048576) := by
  induction d with
  | zero =>
    intro k i left hd hi hk h0 h1
    obtain ⟨k, rfl⟩ := succ_of hk
    refine ⟨left, ?_, fun _ j hj hij => by omega⟩
    simp only [laws_szIntSS.l0, lt_f (show l.length ≤ i by omega), if_false]
  | succ d ih =>
    intro k i left hd hi hk h0 h1
    obtain ⟨k, rfl⟩ := succ_of hk
    have hlt : i < l.length := by omega
    simp only [laws_szIntSS.l0, lt_t hlt, nn_t, if_true, rdL_get l i hlt, szS_f _ (hx _ (List.getElem_mem hlt)) left h0 h1, Option.bind_some, w1 (show i ≤ 140737488355328 by omega)]
    by_cases h : ((l[i]).length : Int) ≤ left
    · rw [if_pos h, if_neg (by omega)]
      obtain ⟨r, h2, h3⟩ := ih k (i + 1) (left - ((l[i]).length : Int)) (by omega) (by omega) (by omega) (by omega) (by omega)
      refine ⟨r, h2, fun hr j hj hij => ?_⟩
      by_cases e : j = i
      · subst e; omega
      · exact h3 hr j hj (by omega)
    · rw [if_neg h]
      exact ⟨-1, by simp, fun h => by omega⟩
theorem szSS (l : List (List Int)) (hm : l.length ≤ maxLen) (hx : ∀ x ∈ l, x.length ≤ maxLen) (k : Nat) (hk : 1048577 < k) : ∃ r, laws_szIntSS.f k l 1048576 = some r ∧ (0 ≤ r → l.length ≤ 1048576 ∧ ∀ x ∈ l, x.length ≤ 1048576) := by
  have := maxLen_le hm
  unfold laws_szIntSS.f
  rw [w64 (by omega) (by omega)]
  by_cases h : (l.length : Int) ≤ 1048576
  · rw [if_neg (by omega)]
    obtain ⟨r, h1, h2⟩ := szSS_l l (by omega) hx l.length k 0 (1048576 - (l.length : Int)) (by omega) (by omega) (by omega) (by omega) (by omega)
    refine ⟨r, h1, fun hr => ⟨by omega, fun x hx => ?_⟩⟩
    obtain ⟨j, hj, rfl⟩ := List.getElem_of_mem hx
    exact h2 hr j hj (by omega)
  · rw [if_pos (by omega)]
    exact ⟨-1, rfl, fun h => by omega⟩
theorem toIntSS_l (l : List (List Int)) (hl : l.length ≤ 1048576) (hx : ∀ x ∈ l, x.length ≤ 1048576) (d : Nat) : ∀ (k : Nat) (ys : List (List Int)) (i : Nat), l.length - i = d → i ≤ l.length → ys.length = l.length → ys.take i = l.take i → d + 1048577 < k → laws_toIntSS.l0 k l ys (i : Int) = some l := by
  induction d with
  | zero =>
    intro k ys i hd hi hy ht hk
    obtain ⟨k, rfl⟩ := succ_of (show 0 < k by omega)
    simp only [laws_toIntSS.l0, lt_f (show l.length ≤ i by omega), if_false]
    have : i = l.length := by omega
    subst this
    rw [List.take_length, ← hy, List.take_length] at ht
    rw [ht]
  | succ d ih =>
    intro k ys i hd hi hy ht hk
    obtain ⟨k, rfl⟩ := succ_of (show 0 < k by omega)
    have hlt : i < l.length := by omega
    have hx1 := hx _ (List.getElem_mem hlt)
    simp only [laws_toIntSS.l0, lt_t hlt, nn_t, if_true, rdL_get l i hlt, toIntS _ (show (l[i]).length ≤ 35184372088832 by omega) k (by omega), Option.bind_some, lt_t (show i < ys.length by omega), w1 (show i ≤ 140737488355328 by omega)]
    refine ih k _ (i + 1) (by omega) (by omega) (by simp [hy]) ?_ (by omega)
    rw [Int.toNat_natCast, List.take_add_one, List.take_add_one, List.take_set_of_le (Nat.le_refl _), ht]
    simp [hy, hlt]
theorem toIntSS (l : List (List Int)) (hl : l.length ≤ 1048576) (hx : ∀ x ∈ l, x.length ≤ 1048576) (k : Nat) (hk : l.length + 1048577 < k) : laws_toIntSS.f k l = some l := by
  unfold laws_toIntSS.f
  rw [if_pos (by omega), if_pos (by omega)]
  exact toIntSS_l l hl hx l.length k _ 0 (by omega) (by omega) (by simp) rfl hk
theorem eqIntSS_self_l (l : List (List Int)) (hl : l.length ≤ 1048576) (hx : ∀ x ∈ l, x.length ≤ 1048576) (d : Nat) : ∀ (k i : Nat), l.length - i = d → i ≤ l.length → d + 1048577 < k → laws_eqIntSS.l0 k l l (i : Int) = some true := by
  induction d with
  | zero =>
    intro k i hd hi hk
    obtain ⟨k, rfl⟩ := succ_of (show 0 < k by omega)
    simp only [laws_eqIntSS.l0, lt_f (show l.length ≤ i by omega), if_false]
  | succ d ih =>
    intro k i hd hi hk
    obtain ⟨k, rfl⟩ := succ_of (show 0 < k by omega)
    have hlt : i < l.length := by omega
    have hx1 := hx _ (List.getElem_mem hlt)
    simp only [laws_eqIntSS.l0, lt_t hlt, nn_t, if_true, rdL_get l i hlt, eqIntS _ _ (show (l[i]).length ≤ 35184372088832 by omega) k (show (l[i]).length < k by omega), Option.bind_some, w1 (show i ≤ 140737488355328 by omega), decide_true]
    exact ih k (i + 1) (by omega) (by omega) (by omega)
theorem eqIntSS_self (l : List (List Int)) (hl : l.length ≤ 1048576) (hx : ∀ x ∈ l, x.length ≤ 1048576) (k : Nat) (hk : l.length + 1048577 < k) : laws_eqIntSS.f k l l = some true := by
  unfold laws_eqIntSS.f
  rw [if_pos rfl]
  exact eqIntSS_self_l l hl hx l.length k 0 (by omega) (by omega) hk

theorem more_of {α : Type} {f : Nat → Option α} (h : ∀ k, LeO (f k) (f (k + 1))) {k : Nat} {r : α} (hr : f k = some r) (K : Nat) (hK : k ≤ K) : f K = some r := by
  obtain ⟨m, rfl⟩ := Nat.exists_eq_add_of_le hK
  clear hK
  induction m with
  | zero => exact hr
  | succ m ih => exact h (k + m) _ ih

theorem wares_l (l : List (List Int)) (hl : l.length ≤ 6) (d : Nat) : ∀ (k i : Nat), l.length - i = d → i ≤ l.length → d < k → spec_WaresOk.l0 k l (l.length : Int) (i : Int) = some ((l.drop i).all wareOk) := by
  induction d with
  | zero =>
    intro k i hd hi hk
    obtain ⟨k, rfl⟩ := succ_of hk
    simp only [spec_WaresOk.l0, lt_f (show l.length ≤ i by omega), if_false, List.drop_of_length_le (show l.length ≤ i by omega), List.all_nil]
  | succ d ih =>
    intro k i hd hi hk
    obtain ⟨k, rfl⟩ := succ_of hk
    have hlt : i < l.length := by omega
    have hih := ih k (i + 1) (by omega) (by omega) (by omega)
    rw [List.drop_eq_getElem_cons hlt, List.all_cons]
    simp only [spec_WaresOk.l0, lt_t hlt, nn_t, if_true, rdL_get l i hlt, l01In_f, Option.bind_some, w1 (show i ≤ 140737488355328 by omega), hih]
    generalize (l.drop (i + 1)).all wareOk = q
    generalize l[i] = p
    unfold wareOk
    generalize rd p 0 = a
    generalize rd p 1 = b
    generalize rd p 2 = c
    by_cases h3 : p.length = 3
    · simp only [show ((p.length : Int) = 3) = True from eq_true (by omega), show (0 < (p.length : Int)) = True from eq_true (by omega), show (1 < (p.length : Int)) = True from eq_true (by omega), show (2 < (p.length : Int)) = True from eq_true (by omega), h3, if_true, true_and]
      by_cases g0 : 1 ≤ a ∧ a ≤ 16
      · by_cases g1 : 1 ≤ b ∧ b ≤ 16
        · by_cases g2 : 0 ≤ c ∧ c ≤ 1000
          · simp [g0, g1, g2]
          · simp [g0, g1, g2]
        · simp [g0, g1]
      · simp [g0]
    · have : ¬ ((p.length : Int) = 3) := by omega
      simp [this, h3]
def waresOk (l : List (List Int)) : Bool := decide (l.length ≤ 6) && l.all wareOk
theorem wares_f (l : List (List Int)) (k : Nat) (hk : 8 < k) : spec_WaresOk.f k l = some (waresOk l) := by
  unfold spec_WaresOk.f waresOk
  by_cases h6 : l.length ≤ 6
  · rw [if_neg (by omega)]
    have := wares_l l h6 l.length k 0 (by omega) (by omega) (by omega)
    rw [Int.ofNat_zero, List.drop_zero] at this
    rw [this]
    simp [h6]
  · rw [if_pos (by omega)]
    simp [h6]
theorem wares_impl (l : List (List Int)) : impl_WaresOk.f l = some (waresOk l) := rfl
theorem waresOk_facts {l : List (List Int)} (h : waresOk l = true) : l.length ≤ 6 ∧ ∀ p ∈ l, p.length = 3 ∧ (1 ≤ rd p 0 ∧ rd p 0 ≤ 16) ∧ (1 ≤ rd p 1 ∧ rd p 1 ≤ 16) ∧ (0 ≤ rd p 2 ∧ rd p 2 ≤ 1000) := by
  simp only [waresOk, Bool.and_eq_true, decide_eq_true_eq, List.all_eq_true] at h
  refine ⟨h.1, fun p hp => ?_⟩
  have := h.2 p hp
  simpa [wareOk] using this
def plateOk (w h : Int) (l : List (List Int)) : Bool := decide (1 ≤ w ∧ w ≤ 16) && (decide (1 ≤ h ∧ h ≤ 16) && waresOk l)
theorem plate_spec (w h : Int) (l : List (List Int)) (k : Nat) (hk : 8 < k) : spec_l16Ok.f k w h l = some (plateOk w h l) := by
  unfold spec_l16Ok.f plateOk
  simp only [l01In_f, Option.bind_some, wares_f l k hk]
  by_cases h1 : 1 ≤ w ∧ w ≤ 16
  · by_cases h2 : 1 ≤ h ∧ h ≤ 16
    · simp [h1, h2]
    · simp [h1, h2]
  · simp [h1]
theorem plate_impl (w h : Int) (l : List (List Int)) : impl_isPlate.f w h l = some (plateOk w h l) := by
  unfold impl_isPlate.f plateOk
  simp only [within_f, Option.bind_some, wares_impl]
  by_cases h1 : 1 ≤ w ∧ w ≤ 16
  · by_cases h2 : 1 ≤ h ∧ h ≤ 16
    · simp [h1, h2]
    · simp [h1, h2]
  · simp [h1]

structure Tab (w h a b : Int) (ps : List (List Int)) (ys : List Int) : Prop where
  len : ys.length = 289
  hw : 1 ≤ w ∧ w ≤ 16
  hh : 1 ≤ h ∧ h ≤ 16
  ha : 1 ≤ a ∧ a ≤ w
  hb : 1 ≤ b ∧ b ≤ h
  three : ∀ i : Int, 0 ≤ i → i < (ps.length : Int) → (rd_L1 ps i).length = 3
  few : ps.length ≤ 6
def at_ (a b : Int) : Nat := a.toNat * 17 + b.toNat
theorem idx_w {a b : Int} (ha : 0 ≤ a ∧ a ≤ 16) (hb : 0 ≤ b ∧ b ≤ 16) : wrap64 (wrap64 (a * 17) + b) = ((at_ a b : Nat) : Int) ∧ at_ a b < 289 := by
  unfold at_
  refine ⟨?_, by omega⟩
  rw [w64 (x := a * 17) (by omega) (by omega), w64 (by omega) (by omega)]
  omega
theorem getD_set_ne (ys : List Int) {i j : Nat} (h : i ≠ j) (n : Int) : (ys.set j n).getD i 0 = ys.getD i 0 := by
  rw [List.getD_eq_getElem?_getD, List.getD_eq_getElem?_getD, List.getElem?_set_ne (fun e => h e.symm)]
theorem getD_set_eq (ys : List Int) {j : Nat} (h : j < ys.length) (n : Int) : (ys.set j n).getD j 0 = n := by
  rw [List.getD_eq_getElem?_getD, List.getElem?_set_self h]
  rfl
theorem sim_q (w h a : Int) (ps : List (List Int)) (k : Nat) (b : Int) (ys : List Int) (T : Tab w h a b ps ys) (next : ∀ (k' : Nat) (n' : Int), k' < k → bvs.b k' w h ps (ys.set (at_ a b) n') a (wrap64 (b + 1)) = spec_l16Table.l1 k' w h ps (ys.set (at_ a b) n') a (wrap64 (b + 1))) : ∀ (c n : Int), 1 ≤ c → c ≤ b → bvs.q k w h ps (ys.set (at_ a b) n) a b c = spec_l16Table.l4 k w h ps ys a b n c := by
  have := T.hw
  have := T.hh
  have := T.ha
  have := T.hb
  have hl := T.len
  obtain ⟨i1, i2⟩ := idx_w (a := a) (b := b) (by omega) (by omega)
  induction k with
  | zero => intro c n _ _; rfl
  | succ k ih =>
    intro c n hc1 hc2
    simp only [bvs.q, spec_l16Table.l4]
    by_cases c1 : c < b
    · obtain ⟨j1, j2⟩ := idx_w (a := a) (b := c) (by omega) (by omega)
      have e : wrap64 (wrap64 (wrap64 (a * 17) + b) - c) = ((at_ a (b - c) : Nat) : Int) := by
        rw [i1]
        unfold at_
        rw [w64 (by omega) (by omega)]
        omega
      have j3 : at_ a (b - c) < 289 := by unfold at_; omega
      have n1 : at_ a c ≠ at_ a b := by unfold at_; omega
      have n2 : at_ a (b - c) ≠ at_ a b := by unfold at_; omega
      have wbc : wrap64 (b - c) = b - c := w64 (by omega) (by omega)
      rw [if_pos c1, if_pos (by rw [wbc]; omega), if_pos c1, j1, e, if_pos (by omega), if_pos (by omega), if_pos (by omega), if_pos (by omega), wbc]
      show bvs.q k w h ps ((ys.set (at_ a b) n).set (at_ a b) (mx ((ys.set (at_ a b) n).getD (at_ a b) 0) (wrap64 ((ys.set (at_ a b) n).getD (at_ a c) 0 + (ys.set (at_ a b) n).getD (at_ a (b - c)) 0)))) a b (wrap64 (c + 1)) = _
      rw [List.set_set, getD_set_eq ys (by omega), getD_set_ne ys n1, getD_set_ne ys n2, w64 (x := c + 1) (by omega) (by omega), rd_nat, rd_nat]
      exact ih (fun k' n' hk => next k' n' (by omega)) (c + 1) _ (by omega) (by omega)
    · rw [if_neg c1, if_neg c1, i1, if_pos (by omega), if_pos (by omega), Int.toNat_natCast]
      exact next k _ (by omega)
theorem sim_p (w h a : Int) (ps : List (List Int)) (k : Nat) (b : Int) (ys : List Int) (T : Tab w h a b ps ys) (next : ∀ (k' : Nat) (n' : Int), k' < k → bvs.b k' w h ps (ys.set (at_ a b) n') a (wrap64 (b + 1)) = spec_l16Table.l1 k' w h ps (ys.set (at_ a b) n') a (wrap64 (b + 1))) : ∀ (c n : Int), 1 ≤ c → c ≤ a → bvs.p k w h ps (ys.set (at_ a b) n) a b c = spec_l16Table.l3 k w h ps ys a b n c := by
  have := T.hw
  have := T.hh
  have := T.ha
  have := T.hb
  have hl := T.len
  obtain ⟨i1, i2⟩ := idx_w (a := a) (b := b) (by omega) (by omega)
  induction k with
  | zero => intro c n _ _; rfl
  | succ k ih =>
    intro c n hc1 hc2
    simp only [bvs.p, spec_l16Table.l3]
    by_cases c1 : c < a
    · obtain ⟨j1, j2⟩ := idx_w (a := c) (b := b) (by omega) (by omega)
      have wbc : wrap64 (a - c) = a - c := w64 (by omega) (by omega)
      obtain ⟨e, j3⟩ := idx_w (a := a - c) (b := b) (by omega) (by omega)
      have n1 : at_ c b ≠ at_ a b := by unfold at_; omega
      have n2 : at_ (a - c) b ≠ at_ a b := by unfold at_; omega
      rw [if_pos c1, if_pos (by rw [wbc]; omega), if_pos c1, wbc, j1, e, if_pos (by omega), if_pos (by omega), if_pos (by omega), if_pos (by omega)]
      show bvs.p k w h ps ((ys.set (at_ a b) n).set (at_ a b) (mx ((ys.set (at_ a b) n).getD (at_ a b) 0) (wrap64 ((ys.set (at_ a b) n).getD (at_ c b) 0 + (ys.set (at_ a b) n).getD (at_ (a - c) b) 0)))) a b (wrap64 (c + 1)) = _
      rw [List.set_set, getD_set_eq ys (by omega), getD_set_ne ys n1, getD_set_ne ys n2, w64 (x := c + 1) (by omega) (by omega), rd_nat, rd_nat]
      exact ih (fun k' n' hk => next k' n' (by omega)) (c + 1) _ (by omega) (by omega)
    · rw [if_neg c1, if_neg c1]
      exact sim_q w h a ps k b ys T (fun k' n' hk => next k' n' (by omega)) 1 n (by omega) (by omega)
theorem sim_l (w h a : Int) (ps : List (List Int)) (k : Nat) (b : Int) (ys : List Int) (T : Tab w h a b ps ys) (next : ∀ (k' : Nat) (n' : Int), k' < k → bvs.b k' w h ps (ys.set (at_ a b) n') a (wrap64 (b + 1)) = spec_l16Table.l1 k' w h ps (ys.set (at_ a b) n') a (wrap64 (b + 1))) : ∀ (i : Nat) (n : Int), i ≤ ps.length → bvs.l k w h ps (ys.set (at_ a b) n) a b (i : Int) = spec_l16Table.l2 k w h ps ys a b n ps (ps.length : Int) (i : Int) := by
  have := T.hw
  have := T.hh
  have := T.ha
  have := T.hb
  have hl := T.len
  have h6 := T.few
  obtain ⟨i1, i2⟩ := idx_w (a := a) (b := b) (by omega) (by omega)
  induction k with
  | zero => intro i n _; rfl
  | succ k ih =>
    intro i n hi
    have ih := fun i n hi => ih (fun k' n' hk => next k' n' (by omega)) i n hi
    simp only [bvs.l, spec_l16Table.l2]
    by_cases c1 : (i : Int) < (ps.length : Int)
    · have h3 := T.three i (by omega) c1
      have e1 := eq_true c1
      have e2 : (0 ≤ (i : Int)) = True := eq_true (by omega)
      have e3 : (0 < ((3 : Nat) : Int)) = True := eq_true (by decide)
      have e4 : (1 < ((3 : Nat) : Int)) = True := eq_true (by decide)
      have e5 : (2 < ((3 : Nat) : Int)) = True := eq_true (by decide)
      have e6 : (0 ≤ a) = True := eq_true (by omega)
      have e7 : (a < 17) = True := eq_true (by omega)
      have e8 : (0 ≤ b) = True := eq_true (by omega)
      have e9 : (b < 17) = True := eq_true (by omega)
      simp only [e1, e2, h3, e3, e4, e5, e6, e7, e8, e9, if_true, and_true, true_and, w1 (show i ≤ 140737488355328 by omega)]
      by_cases c2 : rd (rd_L1 ps (i : Int)) 0 = a
      · simp only [if_pos c2]
        by_cases c3 : rd (rd_L1 ps (i : Int)) 1 = b
        · simp only [if_pos c3]
          show bvs.l k w h ps ((ys.set (at_ a b) n).set (at_ a b) (mx ((ys.set (at_ a b) n).getD (at_ a b) 0) (rd (rd_L1 ps (i : Int)) 2))) a b ((i + 1 : Nat) : Int) = _
          rw [List.set_set, getD_set_eq ys (by omega)]
          exact ih (i + 1) _ (by omega)
        · simp only [if_neg c3]
          exact ih (i + 1) n (by omega)
      · simp only [if_neg c2]
        exact ih (i + 1) n (by omega)
    · rw [if_neg c1, if_neg c1]
      exact sim_p w h a ps k b ys T (fun k' n' hk => next k' n' (by omega)) 1 n (by omega) (by omega)
theorem sim_ab (w h : Int) (ps : List (List Int)) (hw : 1 ≤ w ∧ w ≤ 16) (hh : 1 ≤ h ∧ h ≤ 16) (three : ∀ i : Int, 0 ≤ i → i < (ps.length : Int) → (rd_L1 ps i).length = 3) (few : ps.length ≤ 6) (k : Nat) :
    (∀ (a : Int) (ys : List Int), 1 ≤ a → ys.length = 289 → (∀ i, at_ a 1 ≤ i → ys.getD i 0 = 0) → bvs.a k w h ps ys a = spec_l16Table.l0 k w h ps ys a) ∧
    (∀ (a b : Int) (ys : List Int), 1 ≤ a → a ≤ w → 1 ≤ b → b ≤ h + 1 → ys.length = 289 → (∀ i, at_ a b ≤ i → ys.getD i 0 = 0) → bvs.b k w h ps ys a b = spec_l16Table.l1 k w h ps ys a b) := by
  induction k using Nat.strongRecOn with
  | _ k ih =>
  cases k with
  | zero => exact ⟨fun _ _ _ _ _ => rfl, fun _ _ _ _ _ _ _ _ _ => rfl⟩
  | succ k =>
    refine ⟨fun a ys ha hl hz => ?_, fun a b ys ha1 ha2 hb1 hb2 hl hz => ?_⟩
    · simp only [bvs.a, spec_l16Table.l0]
      by_cases c : a ≤ w
      · rw [if_pos c, if_pos c]
        exact (ih k (by omega)).2 a 1 ys ha c (by omega) (by omega) hl hz
      · rw [if_neg c, if_neg c]
    · simp only [bvs.b, spec_l16Table.l1]
      by_cases c : b ≤ h
      · rw [if_pos c, if_pos c]
        have hj : at_ a b < 289 := (idx_w (a := a) (b := b) (by omega) (by omega)).2
        have hys : ys = ys.set (at_ a b) 0 := by
          have h0 := hz (at_ a b) (Nat.le_refl _)
          rw [List.getD_eq_getElem?_getD, List.getElem?_eq_getElem (by omega)] at h0
          have h1 : ys[at_ a b]'(by omega) = 0 := h0
          rw [← h1, List.set_getElem_self]
        have h2 := sim_l w h a ps k b ys ⟨hl, hw, hh, ⟨ha1, ha2⟩, ⟨hb1, c⟩, three, few⟩ (fun k' n' hk => by
          rw [w64 (x := b + 1) (by omega) (by omega)]
          refine (ih k' (by omega)).2 a (b + 1) _ ha1 ha2 (by omega) (by omega) (by rw [List.length_set]; exact hl) (fun i hi => ?_)
          have hne : i ≠ at_ a b := by
            unfold at_ at hi ⊢
            omega
          rw [getD_set_ne ys hne]
          exact hz i (by unfold at_ at hi ⊢; omega)) 0 0 (by omega)
        rw [← hys] at h2
        exact h2
      · rw [if_neg c, if_neg c, w64 (x := a + 1) (by omega) (by omega)]
        exact (ih k (by omega)).1 (a + 1) ys (by omega) hl (fun i hi => hz i (by unfold at_ at hi ⊢; omega))
def Ex (f : Nat → Option (List Int)) : Prop := ∃ K r, f K = some r ∧ r.length = 289
theorem Ex.step {f g : Nat → Option (List Int)} (h : Ex g) (e : ∀ k, f (k + 1) = g k) : Ex f := by
  obtain ⟨K, r, h1, h2⟩ := h
  exact ⟨K + 1, r, (e K).trans h1, h2⟩
section
variable (w h a b : Int) (ps : List (List Int)) (ha : 1 ≤ a ∧ a ≤ 16) (hb : 1 ≤ b ∧ b ≤ 16)
include ha hb
theorem ex_q (H : ∀ xs : List Int, xs.length = 289 → Ex fun k => bvs.b k w h ps xs a (b + 1)) (d : Nat) : ∀ (c : Int) (xs : List Int), (b - c).toNat = d → 1 ≤ c → c ≤ b → xs.length = 289 → Ex fun k => bvs.q k w h ps xs a b c := by
  induction d with
  | zero =>
    intro c xs hd h1 h2 hl
    refine (H xs hl).step (fun k => ?_)
    simp only [bvs.q]
    rw [if_neg (by omega), w64 (x := b + 1) (by omega) (by omega)]
  | succ d ih =>
    intro c xs hd h1 h2 hl
    refine (ih (c + 1) (xs.set (a.toNat * 17 + b.toNat) (mx (xs.getD (a.toNat * 17 + b.toNat) 0) (wrap64 (xs.getD (a.toNat * 17 + c.toNat) 0 + xs.getD (a.toNat * 17 + (wrap64 (b - c)).toNat) 0)))) (by omega) (by omega) (by omega) (by rw [List.length_set]; exact hl)).step (fun k => ?_)
    simp only [bvs.q]
    rw [if_pos (by omega), if_pos (by rw [w64 (x := b - c) (by omega) (by omega)]; omega), w64 (x := c + 1) (by omega) (by omega)]
theorem ex_p (H : ∀ xs : List Int, xs.length = 289 → Ex fun k => bvs.b k w h ps xs a (b + 1)) (d : Nat) : ∀ (c : Int) (xs : List Int), (a - c).toNat = d → 1 ≤ c → c ≤ a → xs.length = 289 → Ex fun k => bvs.p k w h ps xs a b c := by
  induction d with
  | zero =>
    intro c xs hd h1 h2 hl
    refine (ex_q w h a b ps ha hb H _ 1 xs rfl (by omega) (by omega) hl).step (fun k => ?_)
    simp only [bvs.p]
    rw [if_neg (by omega)]
  | succ d ih =>
    intro c xs hd h1 h2 hl
    refine (ih (c + 1) (xs.set (a.toNat * 17 + b.toNat) (mx (xs.getD (a.toNat * 17 + b.toNat) 0) (wrap64 (xs.getD (c.toNat * 17 + b.toNat) 0 + xs.getD ((wrap64 (a - c)).toNat * 17 + b.toNat) 0)))) (by omega) (by omega) (by omega) (by rw [List.length_set]; exact hl)).step (fun k => ?_)
    simp only [bvs.p]
    rw [if_pos (by omega), if_pos (by rw [w64 (x := a - c) (by omega) (by omega)]; omega), w64 (x := c + 1) (by omega) (by omega)]
theorem ex_l (three : ∀ i : Int, 0 ≤ i → i < (ps.length : Int) → (rd_L1 ps i).length = 3) (few : ps.length ≤ 6) (H : ∀ xs : List Int, xs.length = 289 → Ex fun k => bvs.b k w h ps xs a (b + 1)) (d : Nat) : ∀ (i : Nat) (xs : List Int), ps.length - i = d → i ≤ ps.length → xs.length = 289 → Ex fun k => bvs.l k w h ps xs a b (i : Int) := by
  induction d with
  | zero =>
    intro i xs hd hi hl
    refine (ex_p w h a b ps ha hb H _ 1 xs rfl (by omega) (by omega) hl).step (fun k => ?_)
    simp only [bvs.l]
    rw [if_neg (by omega)]
  | succ d ih =>
    intro i xs hd hi hl
    have h3 := three i (by omega) (by omega)
    by_cases c : rd (rd_L1 ps (i : Int)) 0 = a ∧ rd (rd_L1 ps (i : Int)) 1 = b
    · refine (ih (i + 1) (xs.set (a.toNat * 17 + b.toNat) (mx (xs.getD (a.toNat * 17 + b.toNat) 0) (rd (rd_L1 ps (i : Int)) 2))) (by omega) (by omega) (by rw [List.length_set]; exact hl)).step (fun k => ?_)
      simp only [bvs.l]
      rw [if_pos (by omega), if_pos ⟨by omega, h3, by omega, by omega⟩, if_pos c.1, if_pos c.2, w1 (by omega)]
    · refine (ih (i + 1) xs (by omega) (by omega) hl).step (fun k => ?_)
      simp only [bvs.l]
      rw [if_pos (by omega), if_pos ⟨by omega, h3, by omega, by omega⟩, w1 (by omega)]
      by_cases c1 : rd (rd_L1 ps (i : Int)) 0 = a
      · rw [if_pos c1, if_neg (fun e => c ⟨c1, e⟩)]
      · rw [if_neg c1]
end
theorem ex_b (w h a : Int) (ps : List (List Int)) (hh : 1 ≤ h ∧ h ≤ 16) (ha : 1 ≤ a ∧ a ≤ 16) (three : ∀ i : Int, 0 ≤ i → i < (ps.length : Int) → (rd_L1 ps i).length = 3) (few : ps.length ≤ 6) (H : ∀ xs : List Int, xs.length = 289 → Ex fun k => bvs.a k w h ps xs (a + 1)) (d : Nat) : ∀ (b : Int) (xs : List Int), (h + 1 - b).toNat = d → 1 ≤ b → b ≤ h + 1 → xs.length = 289 → Ex fun k => bvs.b k w h ps xs a b := by
  induction d with
  | zero =>
    intro b xs hd h1 h2 hl
    refine (H xs hl).step (fun k => ?_)
    simp only [bvs.b]
    rw [if_neg (by omega), w64 (x := a + 1) (by omega) (by omega)]
  | succ d ih =>
    intro b xs hd h1 h2 hl
    refine (ex_l w h a b ps ha (by omega) three few (fun xs hl => ih (b + 1) xs (by omega) (by omega) (by omega) hl) _ 0 xs rfl (by omega) hl).step (fun k => ?_)
    simp only [bvs.b]
    rw [if_pos (by omega)]
    rfl
theorem ex_a (w h : Int) (ps : List (List Int)) (hw : 1 ≤ w ∧ w ≤ 16) (hh : 1 ≤ h ∧ h ≤ 16) (three : ∀ i : Int, 0 ≤ i → i < (ps.length : Int) → (rd_L1 ps i).length = 3) (few : ps.length ≤ 6) (d : Nat) : ∀ (a : Int) (xs : List Int), (w + 1 - a).toNat = d → 1 ≤ a → a ≤ w + 1 → xs.length = 289 → Ex fun k => bvs.a k w h ps xs a := by
  induction d with
  | zero =>
    intro a xs hd h1 h2 hl
    refine ⟨1, xs, ?_, hl⟩
    simp only [bvs.a]
    rw [if_neg (by omega)]
  | succ d ih =>
    intro a xs hd h1 h2 hl
    refine (ex_b w h a ps hh (by omega) three few (fun xs hl => ih (a + 1) xs (by omega) (by omega) (by omega) hl) _ 1 xs rfl (by omega) (by omega) hl).step (fun k => ?_)
    simp only [bvs.a]
    rw [if_pos (by omega)]

def Src (ps : List (List Int)) (ys : List Int) (a b n : Int) : Prop :=
  n = 0 ∨ (∃ j : Nat, j < ps.length ∧ rd (rd_L1 ps (j : Int)) 0 = a ∧ rd (rd_L1 ps (j : Int)) 1 = b ∧ rd (rd_L1 ps (j : Int)) 2 = n) ∨
    (∃ c : Int, 1 ≤ c ∧ c < a ∧ wrap64 (ys.getD (at_ c b) 0 + ys.getD (at_ (a - c) b) 0) = n) ∨ (∃ c : Int, 1 ≤ c ∧ c < b ∧ wrap64 (ys.getD (at_ a c) 0 + ys.getD (at_ a (b - c)) 0) = n)
def Don (h : Int) (ps : List (List Int)) (ys : List Int) (a b : Int) : Prop := ∀ a' b' : Int, 1 ≤ a' → a' ≤ 16 → 1 ≤ b' → b' ≤ h → Src ps ys a' b' (ys.getD (at_ a' b') 0) ∧ ((a' < a ∨ a' = a ∧ b' < b) ∨ ys.getD (at_ a' b') 0 = 0)
theorem Src.max {ps : List (List Int)} {ys : List Int} {a b n m : Int} (h1 : Src ps ys a b n) (h2 : Src ps ys a b m) : Src ps ys a b (mx n m) := by
  have : mx n m = n ∨ mx n m = m := by
    unfold mx
    split
    · exact Or.inr rfl
    · exact Or.inl rfl
  rcases this with e | e <;> rw [e] <;> assumption
theorem Src.set {ps : List (List Int)} {ys : List Int} {a b n a' b' : Int} (v : Int) (ha : 1 ≤ a' ∧ a' ≤ 16) (hb : 1 ≤ b' ∧ b' ≤ 16) (hA : 1 ≤ a ∧ a ≤ 16) (hB : 1 ≤ b ∧ b ≤ 16) (hlt : a' < a ∨ a' = a ∧ b' ≤ b) (h : Src ps ys a' b' n) : Src ps (ys.set (at_ a b) v) a' b' n := by
  rcases h with h | h | ⟨c, h1, h2, h3⟩ | ⟨c, h1, h2, h3⟩
  · exact Or.inl h
  · exact Or.inr (Or.inl h)
  · refine Or.inr (Or.inr (Or.inl ⟨c, h1, h2, ?_⟩))
    rw [getD_set_ne ys (by unfold at_; omega), getD_set_ne ys (by unfold at_; omega)]
    exact h3
  · refine Or.inr (Or.inr (Or.inr ⟨c, h1, h2, ?_⟩))
    rw [getD_set_ne ys (by unfold at_; omega), getD_set_ne ys (by unfold at_; omega)]
    exact h3
theorem Don.set {h : Int} {ps : List (List Int)} {ys : List Int} {a b : Int} {n : Int} (hl : ys.length = 289) (hA : 1 ≤ a ∧ a ≤ 16) (hB : 1 ≤ b ∧ b ≤ 16) (hh : h ≤ 16) (hD : Don h ps ys a b) (hS : Src ps ys a b n) : Don h ps (ys.set (at_ a b) n) a (b + 1) := by
  intro a' b' h1 h2 h3 h4
  by_cases e : a' = a ∧ b' = b
  · obtain ⟨rfl, rfl⟩ := e
    rw [getD_set_eq ys (by rw [hl]; exact (idx_w (by omega) (by omega)).2)]
    exact ⟨hS.set n ⟨h1, h2⟩ ⟨h3, by omega⟩ hA hB (Or.inr ⟨rfl, Int.le_refl _⟩), Or.inl (Or.inr ⟨rfl, by omega⟩)⟩
  · rw [getD_set_ne ys (by unfold at_; omega)]
    obtain ⟨g1, g2⟩ := hD a' b' h1 h2 h3 h4
    by_cases q : a' < a ∨ a' = a ∧ b' < b
    · exact ⟨g1.set n ⟨h1, h2⟩ ⟨h3, by omega⟩ hA hB (by omega), Or.inl (by omega)⟩
    · have g3 := g2.resolve_left q
      exact ⟨Or.inl g3, Or.inr g3⟩
/-- Every number of the finished table has a source. -/
theorem don_bvs (w h : Int) (ps : List (List Int)) (hw : 1 ≤ w ∧ w ≤ 16) (hh : 1 ≤ h ∧ h ≤ 16) (few : ps.length ≤ 6) (k : Nat) : ∀ r : List Int,
    (∀ (a : Int) (ys : List Int), 1 ≤ a → a ≤ w + 1 → ys.length = 289 → Don h ps ys a 1 → bvs.a k w h ps ys a = some r → Don h ps r (w + 1) 1) ∧
    (∀ (a b : Int) (ys : List Int), 1 ≤ a → a ≤ w → 1 ≤ b → b ≤ h + 1 → ys.length = 289 → Don h ps ys a b → bvs.b k w h ps ys a b = some r → Don h ps r (w + 1) 1) ∧
    (∀ (a b n : Int) (i : Nat) (ys : List Int), 1 ≤ a → a ≤ w → 1 ≤ b → b ≤ h → ys.length = 289 → Don h ps ys a b → Src ps ys a b n → bvs.l k w h ps (ys.set (at_ a b) n) a b (i : Int) = some r → Don h ps r (w + 1) 1) ∧
    (∀ (a b n c : Int) (ys : List Int), 1 ≤ a → a ≤ w → 1 ≤ b → b ≤ h → 1 ≤ c → ys.length = 289 → Don h ps ys a b → Src ps ys a b n → bvs.p k w h ps (ys.set (at_ a b) n) a b c = some r → Don h ps r (w + 1) 1) ∧
    (∀ (a b n c : Int) (ys : List Int), 1 ≤ a → a ≤ w → 1 ≤ b → b ≤ h → 1 ≤ c → ys.length = 289 → Don h ps ys a b → Src ps ys a b n → bvs.q k w h ps (ys.set (at_ a b) n) a b c = some r → Don h ps r (w + 1) 1) := by
  induction k with
  | zero => intro r; exact ⟨fun _ _ _ _ _ _ h => by simp [bvs.a] at h, fun _ _ _ _ _ _ _ _ _ h => by simp [bvs.b] at h, fun _ _ _ _ _ _ _ _ _ _ _ _ h => by simp [bvs.l] at h, fun _ _ _ _ _ _ _ _ _ _ _ _ _ h => by simp [bvs.p] at h, fun _ _ _ _ _ _ _ _ _ _ _ _ _ h => by simp [bvs.q] at h⟩
  | succ k ih =>
    intro r
    obtain ⟨i0, i1, i2, i3, i4⟩ := ih r
    refine ⟨?_, ?_, ?_, ?_, ?_⟩
    · intro a ys h1 h2 hl hD H
      simp only [bvs.a] at H
      by_cases c : a ≤ w
      · rw [if_pos c] at H
        exact i1 a 1 ys h1 c (by omega) (by omega) hl hD H
      · rw [if_neg c] at H
        have e1 := Option.some.inj H
        have e2 : a = w + 1 := by omega
        rw [← e1, ← e2]
        exact hD
    · intro a b ys h1 h2 h3 h4 hl hD H
      simp only [bvs.b] at H
      by_cases c : b ≤ h
      · rw [if_pos c] at H
        have hj : at_ a b < 289 := (idx_w (a := a) (b := b) (by omega) (by omega)).2
        have h0 := (hD a b h1 (by omega) h3 c).2.resolve_left (by omega)
        have hys : ys = ys.set (at_ a b) 0 := by
          rw [List.getD_eq_getElem?_getD, List.getElem?_eq_getElem (by omega)] at h0
          have h1 : ys[at_ a b]'(by omega) = 0 := h0
          rw [← h1, List.set_getElem_self]
        rw [hys] at H
        exact i2 a b 0 0 ys h1 h2 h3 c hl hD (Or.inl rfl) H
      · rw [if_neg c, w64 (x := a + 1) (by omega) (by omega)] at H
        refine i0 (a + 1) ys (by omega) (by omega) hl (fun a' b' g1 g2 g3 g4 => ?_) H
        obtain ⟨q1, q2⟩ := hD a' b' g1 g2 g3 g4
        exact ⟨q1, by omega⟩
    · intro a b n i ys h1 h2 h3 h4 hl hD hS H
      have hj : at_ a b < 289 := (idx_w (a := a) (b := b) (by omega) (by omega)).2
      simp only [bvs.l] at H
      by_cases c : (i : Int) < (ps.length : Int)
      · rw [if_pos c] at H
        by_cases g : 0 ≤ (i : Int) ∧ (rd_L1 ps (i : Int)).length = 3 ∧ (0 ≤ a ∧ a < 17) ∧ 0 ≤ b ∧ b < 17
        · rw [if_pos g, w1 (show i ≤ 140737488355328 by omega)] at H
          by_cases c2 : rd (rd_L1 ps (i : Int)) 0 = a
          · rw [if_pos c2] at H
            by_cases c3 : rd (rd_L1 ps (i : Int)) 1 = b
            · rw [if_pos c3] at H
              have H : bvs.l k w h ps ((ys.set (at_ a b) n).set (at_ a b) (mx ((ys.set (at_ a b) n).getD (at_ a b) 0) (rd (rd_L1 ps (i : Int)) 2))) a b ((i + 1 : Nat) : Int) = some r := H
              rw [List.set_set, getD_set_eq ys (by omega)] at H
              exact i2 a b _ (i + 1) ys h1 h2 h3 h4 hl hD (hS.max (Or.inr (Or.inl ⟨i, by omega, c2, c3, rfl⟩))) H
            · rw [if_neg c3] at H
              exact i2 a b n (i + 1) ys h1 h2 h3 h4 hl hD hS H
          · rw [if_neg c2] at H
            exact i2 a b n (i + 1) ys h1 h2 h3 h4 hl hD hS H
        · rw [if_neg g] at H
          cases H
      · rw [if_neg c] at H
        exact i3 a b n 1 ys h1 h2 h3 h4 (by omega) hl hD hS H
    · intro a b n c ys h1 h2 h3 h4 h5 hl hD hS H
      have hj : at_ a b < 289 := (idx_w (a := a) (b := b) (by omega) (by omega)).2
      simp only [bvs.p] at H
      by_cases c1 : c < a
      · rw [if_pos c1, w64 (x := a - c) (by omega) (by omega), w64 (x := c + 1) (by omega) (by omega), if_pos (by omega)] at H
        have n1 : at_ c b ≠ at_ a b := by unfold at_; omega
        have n2 : at_ (a - c) b ≠ at_ a b := by unfold at_; omega
        have H : bvs.p k w h ps ((ys.set (at_ a b) n).set (at_ a b) (mx ((ys.set (at_ a b) n).getD (at_ a b) 0) (wrap64 ((ys.set (at_ a b) n).getD (at_ c b) 0 + (ys.set (at_ a b) n).getD (at_ (a - c) b) 0)))) a b (c + 1) = some r := H
        rw [List.set_set, getD_set_eq ys (by omega), getD_set_ne ys n1, getD_set_ne ys n2] at H
        exact i3 a b _ (c + 1) ys h1 h2 h3 h4 (by omega) hl hD (hS.max (Or.inr (Or.inr (Or.inl ⟨c, h5, c1, rfl⟩)))) H
      · rw [if_neg c1] at H
        exact i4 a b n 1 ys h1 h2 h3 h4 (by omega) hl hD hS H
    · intro a b n c ys h1 h2 h3 h4 h5 hl hD hS H
      have hj : at_ a b < 289 := (idx_w (a := a) (b := b) (by omega) (by omega)).2
      simp only [bvs.q] at H
      by_cases c1 : c < b
      · rw [if_pos c1, w64 (x := b - c) (by omega) (by omega), w64 (x := c + 1) (by omega) (by omega), if_pos (by omega)] at H
        have n1 : at_ a c ≠ at_ a b := by unfold at_; omega
        have n2 : at_ a (b - c) ≠ at_ a b := by unfold at_; omega
        have H : bvs.q k w h ps ((ys.set (at_ a b) n).set (at_ a b) (mx ((ys.set (at_ a b) n).getD (at_ a b) 0) (wrap64 ((ys.set (at_ a b) n).getD (at_ a c) 0 + (ys.set (at_ a b) n).getD (at_ a (b - c)) 0)))) a b (c + 1) = some r := H
        rw [List.set_set, getD_set_eq ys (by omega), getD_set_ne ys n1, getD_set_ne ys n2] at H
        exact i4 a b _ (c + 1) ys h1 h2 h3 h4 (by omega) hl hD (hS.max (Or.inr (Or.inr (Or.inr ⟨c, h5, c1, rfl⟩)))) H
      · rw [if_neg c1, w64 (x := b + 1) (by omega) (by omega)] at H
        exact i1 a (b + 1) _ h1 h2 (by omega) (by omega) (by rw [List.length_set]; exact hl) (hD.set hl ⟨h1, by omega⟩ ⟨h3, by omega⟩ hh.2 hS) H
/-! Both texts. -/
def Bo (f g : Nat → Option ByteArray) (N : Nat) : Prop := ∃ (K : Nat) (s : ByteArray), s.size + 5 ≤ N ∧ ∀ k, K ≤ k → f k = some s ∧ g k = some s
theorem Bo.step {f g f' g' : Nat → Option ByteArray} {N : Nat} (h : Bo f g N) (hf : ∀ k, f' (k + 1) = f k) (hg : ∀ k, g' (k + 1) = g k) : Bo f' g' N := by
  obtain ⟨K, s, h1, h2⟩ := h
  refine ⟨K + 1, s, h1, fun k hk => ?_⟩
  obtain ⟨m, rfl⟩ := succ_of (show K < k by omega)
  rw [hf, hg]
  exact h2 m (by omega)
theorem fmt16 : ∀ n : Fin 16, spec_FormatInt.f 4 ((n.1 : Nat) : Int) = some (fmtK n.1) ∧ (fmtK n.1).size ≤ 2 := by decide +kernel
theorem ware6 : ∀ n : Fin 6, (⟨#[97, 98, 99, 100, 101, 102]⟩ : ByteArray).extract n.1 (n.1 + 1) = wareK n.1 ∧ (wareK n.1).size = 1 := by decide +kernel
theorem fmt_f (c : Int) (h0 : 0 ≤ c) (h1 : c < 16) (k : Nat) (hk : 4 ≤ k) : spec_FormatInt.f k c = some (fmtK c.toNat) ∧ (fmtK c.toNat).size ≤ 2 := by
  obtain ⟨h2, h3⟩ := fmt16 ⟨c.toNat, by omega⟩
  have e : ((c.toNat : Nat) : Int) = c := by omega
  simp only [e] at h2
  exact ⟨more_of (f := fun k => spec_FormatInt.f k c) (spec_FormatInt.mono c) h2 k hk, h3⟩
theorem cut_size (ch : UInt8) (c : Int) (s t : ByteArray) : (cutK ch c s t).size = (fmtK c.toNat).size + s.size + t.size + 3 := by
  unfold cutK
  simp only [ByteArray.size_append]
  show 1 + _ + 1 + _ + _ + 1 = _
  omega
section
variable (w h : Int) (ps : List (List Int)) (xs : List Int)
theorem bo_ware (hl : xs.length = 289) (few : ps.length ≤ 6) (three : ∀ i : Int, 0 ≤ i → i < (ps.length : Int) → (rd_L1 ps i).length = 3) (a b n : Int) (N : Nat) (hN : 6 ≤ N)
    (next : (∀ j : Nat, j < ps.length → ¬ (rd (rd_L1 ps (j : Int)) 0 = a ∧ rd (rd_L1 ps (j : Int)) 1 = b ∧ rd (rd_L1 ps (j : Int)) 2 = n)) → Bo (fun k => bps.cv k xs ps a b n 1) (fun k => spec_l16Plan.l1 k a b ps xs n 1) N) (d : Nat) :
    ∀ i : Nat, ps.length - i = d → i ≤ ps.length → (∀ j : Nat, j < i → ¬ (rd (rd_L1 ps (j : Int)) 0 = a ∧ rd (rd_L1 ps (j : Int)) 1 = b ∧ rd (rd_L1 ps (j : Int)) 2 = n)) → Bo (fun k => bps.ware k xs ps a b n (i : Int)) (fun k => spec_l16Plan.l0 k a b ps xs n ps (ps.length : Int) (i : Int)) N := by
  induction d with
  | zero =>
    intro i hd hi hno
    refine (next (fun j hj => hno j (by omega))).step (fun k => ?_) (fun k => ?_)
    · simp only [bps.ware]
      rw [if_neg (by omega)]
    · simp only [spec_l16Plan.l0]
      rw [if_neg (by omega)]
  | succ d ih =>
    intro i hd hi hno
    have h3 := three i (by omega) (by omega)
    have e1 : ((i : Int) < (ps.length : Int)) = True := eq_true (by omega)
    have e2 : (0 ≤ (i : Int)) = True := eq_true (by omega)
    have e2b : ((i : Int) < 6) = True := eq_true (by omega)
    have e3 : (0 < ((3 : Nat) : Int)) = True := eq_true (by decide)
    have e4 : (1 < ((3 : Nat) : Int)) = True := eq_true (by decide)
    have e5 : (2 < ((3 : Nat) : Int)) = True := eq_true (by decide)
    have ew := w1 (show i ≤ 140737488355328 by omega)
    by_cases m : rd (rd_L1 ps (i : Int)) 0 = a ∧ rd (rd_L1 ps (i : Int)) 1 = b ∧ rd (rd_L1 ps (i : Int)) 2 = n
    · obtain ⟨q1, q2⟩ := ware6 ⟨i, by omega⟩
      have q1 : (⟨#[97, 98, 99, 100, 101, 102]⟩ : ByteArray).extract i (i + 1) = wareK i := q1
      have q2 : (wareK i).size = 1 := q2
      refine ⟨1, wareK i, by omega, fun k hk => ?_⟩
      obtain ⟨k, rfl⟩ := succ_of (show 0 < k by omega)
      have e6 : ((i : Int) ≤ ((i + 1 : Nat) : Int)) = True := eq_true (by omega)
      have e7 : (((i + 1 : Nat) : Int) ≤ 6) = True := eq_true (by omega)
      simp only [bps.ware, spec_l16Plan.l0, e1, e2, e2b, h3, e3, e4, e5, ew, e6, e7, m.1, m.2.1, m.2.2, if_true, and_true, Int.toNat_natCast, q1]
    · refine (ih (i + 1) (by omega) (by omega) (fun j hj => ?_)).step (fun k => ?_) (fun k => ?_)
      · by_cases e : j = i
        · rw [e]; exact m
        · exact hno j (by omega)
      · simp only [bps.ware, e1, e2, e2b, h3, ew, if_true, and_true]
        by_cases m1 : rd (rd_L1 ps (i : Int)) 0 = a
        · rw [if_pos m1]
          by_cases m2 : rd (rd_L1 ps (i : Int)) 1 = b
          · rw [if_pos m2, if_neg (fun e => m ⟨m1, m2, e⟩)]
          · rw [if_neg m2]
        · rw [if_neg m1]
      · simp only [spec_l16Plan.l0, e1, e2, h3, e3, e4, e5, ew, if_true]
        by_cases m1 : rd (rd_L1 ps (i : Int)) 0 = a
        · rw [if_pos m1]
          by_cases m2 : rd (rd_L1 ps (i : Int)) 1 = b
          · rw [if_pos m2, if_neg (fun e => m ⟨m1, m2, e⟩)]
          · rw [if_neg m2]
        · rw [if_neg m1]
theorem bo_cut (ch : UInt8) (c : Int) (hc : 0 ≤ c ∧ c < 16) {p q p' q' : Nat → Option ByteArray} {N1 N2 N : Nat} (h1 : Bo p p' N1) (h2 : Bo q q' N2) (hN : N1 + N2 ≤ N) (hs : N ≤ 100000) {F G : Nat → Option ByteArray}
    (hF : ∀ k, F (k + 1) = (p k).bind fun s => (q k).bind fun t => if s.size < 100000 ∧ t.size < 100000 then some (cutK ch c s t) else none)
    (hG : ∀ k, G (k + 1) = (spec_FormatInt.f k c).bind fun t142 => (if 1 + t142.size ≤ 9223372036854775807 then (if ((⟨#[ch]⟩ : ByteArray) ++ t142).size + 1 ≤ 9223372036854775807 then ((p' k).bind fun t143 => (if (((⟨#[ch]⟩ : ByteArray) ++ t142) ++ (⟨#[40]⟩ : ByteArray)).size + t143.size ≤ 9223372036854775807 then ((q' k).bind fun t144 => (if ((((⟨#[ch]⟩ : ByteArray) ++ t142) ++ (⟨#[40]⟩ : ByteArray)) ++ t143).size + t144.size ≤ 9223372036854775807 then (if (((((⟨#[ch]⟩ : ByteArray) ++ t142) ++ (⟨#[40]⟩ : ByteArray)) ++ t143) ++ t144).size + 1 ≤ 9223372036854775807 then (some ((((((⟨#[ch]⟩ : ByteArray) ++ t142) ++ (⟨#[40]⟩ : ByteArray)) ++ t143) ++ t144) ++ (⟨#[41]⟩ : ByteArray))) else (none)) else (none))) else (none))) else (none)) else (none))) : Bo F G N := by
  obtain ⟨K1, s, s1, s2⟩ := h1
  obtain ⟨K2, t, t1, t2⟩ := h2
  have hf := (fmt_f c hc.1 hc.2 4 (Nat.le_refl _)).2
  refine ⟨K1 + K2 + 5, cutK ch c s t, by rw [cut_size]; omega, fun k hk => ?_⟩
  obtain ⟨k, rfl⟩ := succ_of (show 0 < k by omega)
  have one : (⟨#[ch]⟩ : ByteArray).size = 1 := rfl
  have two : (⟨#[40]⟩ : ByteArray).size = 1 := rfl
  rw [hF, hG, (s2 k (by omega)).1, (s2 k (by omega)).2, (t2 k (by omega)).1, (t2 k (by omega)).2, (fmt_f c hc.1 hc.2 k (by omega)).1]
  simp only [Option.bind_some]
  rw [if_pos (by omega), if_pos (by omega), if_pos (by simp only [ByteArray.size_append, one, two]; omega), if_pos (by simp only [ByteArray.size_append, one, two]; omega), if_pos (by simp only [ByteArray.size_append, one, two]; omega), if_pos (by simp only [ByteArray.size_append, one, two]; omega)]
  exact ⟨rfl, rfl⟩
theorem bo_cv (hl : xs.length = 289) (a b n : Int) (ha : 1 ≤ a ∧ a ≤ 16) (hb : 1 ≤ b ∧ b ≤ 16) (N : Nat) (hN : N = 8 * (a.toNat * b.toNat))
    (rec : ∀ c : Int, 1 ≤ c → c < a → Bo (fun k => bps.plan k xs ps c b) (fun k => spec_l16Plan.f k c b ps xs) (8 * (c.toNat * b.toNat)))
    (next : (∀ c : Int, 1 ≤ c → c < a → ¬ wrap64 (xs.getD (at_ c b) 0 + xs.getD (at_ (a - c) b) 0) = n) → Bo (fun k => bps.ch k xs ps a b n 1) (fun k => spec_l16Plan.l2 k a b ps xs n 1) N) (d : Nat) :
    ∀ c : Int, (a - c).toNat = d → 1 ≤ c → c ≤ a → (∀ e : Int, 1 ≤ e → e < c → ¬ wrap64 (xs.getD (at_ e b) 0 + xs.getD (at_ (a - e) b) 0) = n) → Bo (fun k => bps.cv k xs ps a b n c) (fun k => spec_l16Plan.l1 k a b ps xs n c) N := by
  induction d with
  | zero =>
    intro c hd h1 h2 hno
    refine (next (fun e e1 e2 => hno e e1 (by omega))).step (fun k => ?_) (fun k => ?_)
    · simp only [bps.cv]
      rw [if_neg (by omega)]
    · simp only [spec_l16Plan.l1]
      rw [if_neg (by omega)]
  | succ d ih =>
    intro c hd h1 h2 hno
    obtain ⟨j1, j2⟩ := idx_w (a := c) (b := b) (by omega) (by omega)
    obtain ⟨j3, j4⟩ := idx_w (a := a - c) (b := b) (by omega) (by omega)
    have wbc : wrap64 (a - c) = a - c := w64 (by omega) (by omega)
    have wc1 : wrap64 (c + 1) = c + 1 := w64 (by omega) (by omega)
    have F : ∀ k, bps.cv (k + 1) xs ps a b n c = if wrap64 (xs.getD (at_ c b) 0 + xs.getD (at_ (a - c) b) 0) = n then ((bps.plan k xs ps c b).bind fun s => (bps.plan k xs ps (a - c) b).bind fun t => if s.size < 100000 ∧ t.size < 100000 then some (cutK 118 c s t) else none) else bps.cv k xs ps a b n (c + 1) := by
      intro k
      simp only [bps.cv]
      rw [if_pos (by omega), wbc, if_pos (by omega), wc1]
      rfl
    have e0 : (c < a) = True := eq_true (by omega)
    have e1 : (0 ≤ ((at_ c b : Nat) : Int)) = True := eq_true (by omega)
    have e2 : (((at_ c b : Nat) : Int) < (xs.length : Int)) = True := eq_true (by omega)
    have e3 : (0 ≤ ((at_ (a - c) b : Nat) : Int)) = True := eq_true (by omega)
    have e4 : (((at_ (a - c) b : Nat) : Int) < (xs.length : Int)) = True := eq_true (by omega)
    have hmul : 8 * (c.toNat * b.toNat) + 8 * ((a - c).toNat * b.toNat) = 8 * (a.toNat * b.toNat) := by
      rw [← Nat.mul_add, ← Nat.add_mul]
      congr 2
      omega
    have hbig : a.toNat * b.toNat ≤ 16 * 16 := Nat.mul_le_mul (by omega) (by omega)
    by_cases m : wrap64 (xs.getD (at_ c b) 0 + xs.getD (at_ (a - c) b) 0) = n
    · refine bo_cut 118 c ⟨by omega, by omega⟩ (rec c h1 (by omega)) (rec (a - c) (by omega) (by omega)) (N := N) (by omega) (by omega) (fun k => ?_) (fun k => ?_)
      · rw [F k, if_pos m]
      · simp only [spec_l16Plan.l1, e0, if_true, wbc, j1, j3, e1, e2, e3, e4, rd_nat]
        rw [if_pos m]
    · refine (ih (c + 1) (by omega) (by omega) (by omega) (fun e q1 q2 => ?_)).step (fun k => ?_) (fun k => ?_)
      · by_cases ec : e = c
        · rw [ec]; exact m
        · exact hno e q1 (by omega)
      · rw [F k, if_neg m]
      · simp only [spec_l16Plan.l1, e0, if_true, wbc, j1, j3, e1, e2, e3, e4, rd_nat, wc1]
        rw [if_neg m]
theorem bo_ch (hl : xs.length = 289) (a b n : Int) (ha : 1 ≤ a ∧ a ≤ 16) (hb : 1 ≤ b ∧ b ≤ 16) (N : Nat) (hN : N = 8 * (a.toNat * b.toNat))
    (rec : ∀ c : Int, 1 ≤ c → c < b → Bo (fun k => bps.plan k xs ps a c) (fun k => spec_l16Plan.f k a c ps xs) (8 * (a.toNat * c.toNat)))
    (next : ∃ c : Int, 1 ≤ c ∧ c < b ∧ wrap64 (xs.getD (at_ a c) 0 + xs.getD (at_ a (b - c)) 0) = n) (d : Nat) :
    ∀ c : Int, (b - c).toNat = d → 1 ≤ c → c ≤ b → (∀ e : Int, 1 ≤ e → e < c → ¬ wrap64 (xs.getD (at_ a e) 0 + xs.getD (at_ a (b - e)) 0) = n) → Bo (fun k => bps.ch k xs ps a b n c) (fun k => spec_l16Plan.l2 k a b ps xs n c) N := by
  induction d with
  | zero =>
    intro c hd h1 h2 hno
    obtain ⟨e, e1, e2, e3⟩ := next
    exact absurd e3 (hno e e1 (by omega))
  | succ d ih =>
    intro c hd h1 h2 hno
    obtain ⟨j1, j2⟩ := idx_w (a := a) (b := c) (by omega) (by omega)
    obtain ⟨j5, j6⟩ := idx_w (a := a) (b := b) (by omega) (by omega)
    have j3 : wrap64 (wrap64 (wrap64 (a * 17) + b) - c) = ((at_ a (b - c) : Nat) : Int) := by
      rw [j5]
      unfold at_
      rw [w64 (by omega) (by omega)]
      omega
    have j4 : at_ a (b - c) < 289 := by unfold at_; omega
    have wbc : wrap64 (b - c) = b - c := w64 (by omega) (by omega)
    have wc1 : wrap64 (c + 1) = c + 1 := w64 (by omega) (by omega)
    have F : ∀ k, bps.ch (k + 1) xs ps a b n c = if wrap64 (xs.getD (at_ a c) 0 + xs.getD (at_ a (b - c)) 0) = n then ((bps.plan k xs ps a c).bind fun s => (bps.plan k xs ps a (b - c)).bind fun t => if s.size < 100000 ∧ t.size < 100000 then some (cutK 104 c s t) else none) else bps.ch k xs ps a b n (c + 1) := by
      intro k
      simp only [bps.ch]
      rw [if_pos (by omega), wbc, if_pos (by omega), wc1]
      rfl
    have e0 : (c < b) = True := eq_true (by omega)
    have e1 : (0 ≤ ((at_ a c : Nat) : Int)) = True := eq_true (by omega)
    have e2 : (((at_ a c : Nat) : Int) < (xs.length : Int)) = True := eq_true (by omega)
    have e3 : (0 ≤ ((at_ a (b - c) : Nat) : Int)) = True := eq_true (by omega)
    have e4 : (((at_ a (b - c) : Nat) : Int) < (xs.length : Int)) = True := eq_true (by omega)
    have hmul : 8 * (a.toNat * c.toNat) + 8 * (a.toNat * (b - c).toNat) = 8 * (a.toNat * b.toNat) := by
      rw [← Nat.mul_add, ← Nat.mul_add]
      congr 2
      omega
    have hbig : a.toNat * b.toNat ≤ 16 * 16 := Nat.mul_le_mul (by omega) (by omega)
    by_cases m : wrap64 (xs.getD (at_ a c) 0 + xs.getD (at_ a (b - c)) 0) = n
    · refine bo_cut 104 c ⟨by omega, by omega⟩ (rec c h1 (by omega)) (rec (b - c) (by omega) (by omega)) (N := N) (by omega) (by omega) (fun k => ?_) (fun k => ?_)
      · rw [F k, if_pos m]
      · simp only [spec_l16Plan.l2, e0, if_true, wbc, j1, j3, e1, e2, e3, e4, rd_nat]
        rw [if_pos m]
    · refine (ih (c + 1) (by omega) (by omega) (by omega) (fun e q1 q2 => ?_)).step (fun k => ?_) (fun k => ?_)
      · by_cases ec : e = c
        · rw [ec]; exact m
        · exact hno e q1 (by omega)
      · rw [F k, if_neg m]
      · simp only [spec_l16Plan.l2, e0, if_true, wbc, j1, j3, e1, e2, e3, e4, rd_nat, wc1]
        rw [if_neg m]
theorem bo_plan (hl : xs.length = 289) (hw : w ≤ 16) (hh : h ≤ 16) (few : ps.length ≤ 6) (three : ∀ i : Int, 0 ≤ i → i < (ps.length : Int) → (rd_L1 ps i).length = 3)
    (src : ∀ a b : Int, 1 ≤ a → a ≤ w → 1 ≤ b → b ≤ h → Src ps xs a b (xs.getD (at_ a b) 0)) (m : Nat) :
    ∀ a b : Int, a.toNat + b.toNat ≤ m → 1 ≤ a → a ≤ w → 1 ≤ b → b ≤ h → Bo (fun k => bps.plan k xs ps a b) (fun k => spec_l16Plan.f k a b ps xs) (8 * (a.toNat * b.toNat)) := by
  induction m with
  | zero => intro a b hm h1 h2 h3 h4; omega
  | succ m ih =>
    intro a b hm h1 h2 h3 h4
    obtain ⟨j1, j2⟩ := idx_w (a := a) (b := b) (by omega) (by omega)
    have hs := src a b h1 h2 h3 h4
    have hN : 1 * 1 ≤ a.toNat * b.toNat := Nat.mul_le_mul (by omega) (by omega)
    have e0 : ((0 ≤ a ∧ a < 17) ∧ 0 ≤ b ∧ b < 17) = True := eq_true (by omega)
    have e1 : (0 ≤ ((at_ a b : Nat) : Int)) = True := eq_true (by omega)
    have e2 : (((at_ a b : Nat) : Int) < (xs.length : Int)) = True := eq_true (by omega)
    have F : ∀ k, bps.plan (k + 1) xs ps a b = if xs.getD (at_ a b) 0 = 0 then some ⟨#[46]⟩ else bps.ware k xs ps a b (xs.getD (at_ a b) 0) 0 := by
      intro k
      simp only [bps.plan, e0, if_true]
      rfl
    have G : ∀ k, spec_l16Plan.f (k + 1) a b ps xs = if xs.getD (at_ a b) 0 = 0 then some ⟨#[46]⟩ else spec_l16Plan.l0 k a b ps xs (xs.getD (at_ a b) 0) ps (ps.length : Int) 0 := by
      intro k
      simp only [spec_l16Plan.f, j1, e1, e2, if_true, rd_nat]
    by_cases z : xs.getD (at_ a b) 0 = 0
    · refine ⟨1, ⟨#[46]⟩, by show 1 + 5 ≤ _; omega, fun k hk => ?_⟩
      obtain ⟨k, rfl⟩ := succ_of (show 0 < k by omega)
      refine ⟨?_, ?_⟩
      · show bps.plan (k + 1) xs ps a b = _
        rw [F, if_pos z]
      · show spec_l16Plan.f (k + 1) a b ps xs = _
        rw [G, if_pos z]
    · refine (bo_ware ps xs hl few three a b (xs.getD (at_ a b) 0) _ (by omega) (fun no1 => ?_) _ 0 rfl (by omega) (fun j hj => by omega)).step (fun k => ?_) (fun k => ?_)
      · refine bo_cv ps xs hl a b _ (by omega) (by omega) _ rfl (fun c c1 c2 => ih c b (by omega) c1 (by omega) h3 h4) (fun no2 => ?_) _ 1 rfl (by omega) (by omega) (fun e e1 e2 => by omega)
        refine bo_ch ps xs hl a b _ (by omega) (by omega) _ rfl (fun c c1 c2 => ih a c (by omega) h1 h2 c1 (by omega)) ?_ _ 1 rfl (by omega) (by omega) (fun e e1 e2 => by omega)
        rcases hs with q | ⟨j, q1, q2, q3, q4⟩ | ⟨c, q1, q2, q3⟩ | q
        · exact absurd q z
        · exact absurd ⟨q2, q3, q4⟩ (no1 j q1)
        · exact absurd q3 (no2 c q1 q2)
        · exact q
      · rw [F, if_neg z]
        rfl
      · rw [G, if_neg z]
        rfl
end
theorem bestPlan_both (w h : Int) (ps : List (List Int)) : ∃ K r, ∀ k, K ≤ k → spec_BestPlan.f k w h ps = some r ∧ impl_BestPlan.f k w h ps = some r := by
  by_cases hp : plateOk w h ps = true
  · have hp' := hp
    simp only [plateOk, Bool.and_eq_true, decide_eq_true_eq] at hp'
    obtain ⟨hw, hh, ho⟩ := hp'
    obtain ⟨few, hall⟩ := waresOk_facts ho
    have three : ∀ i : Int, 0 ≤ i → i < (ps.length : Int) → (rd_L1 ps i).length = 3 := fun i h0 h1 => by
      unfold rd_L1
      rw [List.getD_eq_getElem?_getD, List.getElem?_eq_getElem (by omega)]
      exact (hall _ (List.getElem_mem _)).1
    obtain ⟨K, t, ht, hl⟩ := ex_a w h ps hw hh three few _ 1 (List.replicate 289 0) rfl (by omega) (by omega) List.length_replicate
    have hz : ∀ i : Nat, (List.replicate 289 (0 : Int)).getD i 0 = 0 := fun i => by
      rw [List.getD_eq_getElem?_getD, List.getElem?_replicate]
      split <;> rfl
    have hD := (don_bvs w h ps hw hh few K t).1 1 (List.replicate 289 0) (by omega) (by omega) List.length_replicate (fun a b _ _ _ _ => ⟨Or.inl (hz _), Or.inr (hz _)⟩) ht
    obtain ⟨K2, s, hs, hb⟩ := bo_plan w h ps t hl hw.2 hh.2 few three (fun a b h1 h2 h3 h4 => (hD a b h1 (by omega) h3 h4).1) _ w h (Nat.le_refl _) hw.1 (Int.le_refl _) hh.1 (Int.le_refl _)
    refine ⟨K + K2 + 10, s, fun k hk => ?_⟩
    have hI : impl_bestValues.f k w h ps = some t := more_of (f := fun k => impl_bestValues.f k w h ps) (impl_bestValues.mono w h ps) ht k (by omega)
    have hS : spec_l16Table.f k w h ps = some t := by
      unfold spec_l16Table.f
      rw [if_pos (by decide)]
      exact ((sim_ab w h ps hw hh three few k).1 1 (List.replicate 289 0) (by omega) List.length_replicate (fun i _ => hz i)).symm.trans hI
    unfold spec_BestPlan.f impl_BestPlan.f
    rw [plate_spec w h ps k (by omega), plate_impl, hp]
    simp only [Option.bind_some, if_true, hI, hS, (hb k (by omega)).1, (hb k (by omega)).2]
    exact ⟨trivial, trivial⟩
  · refine ⟨10, ⟨#[]⟩, fun k hk => ?_⟩
    unfold spec_BestPlan.f impl_BestPlan.f
    rw [plate_spec w h ps k (by omega), plate_impl]
    simp only [Option.bind_some, if_neg hp]
    exact ⟨trivial, trivial⟩
theorem FnExactBestPlan : laws_FnExactBestPlan.Pure := by
  intro w h l _ _ hm _ hw
  obtain ⟨K, q, hq⟩ := bestPlan_both w h l
  obtain ⟨r, h1, h2⟩ := szSS l hm (fun x hx => (hw x hx).1) (2097160 + K) (by omega)
  refine ⟨2097160 + K, ?_⟩
  unfold laws_FnExactBestPlan.f
  rw [h1]
  simp only [Option.bind_some]
  by_cases hr : r < 0
  · rw [if_pos hr]
  · obtain ⟨h3, h4⟩ := h2 (by omega)
    obtain ⟨q1, q2⟩ := hq (2097160 + K) (by omega)
    rw [if_neg hr, toIntSS l h3 h4 _ (by omega)]
    simp only [Option.bind_some, q1, q2, eqIntSS_self l h3 h4 (2097160 + K) (by omega)]
    simp

end Go.Proofs.YthjiccclpalobaaDoor.Pure
