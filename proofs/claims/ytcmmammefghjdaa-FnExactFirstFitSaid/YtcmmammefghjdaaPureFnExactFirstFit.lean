/- FirstFit: the reference's plan; its bars are numbered in order already. -/
import Derived.Test.YtcmmammefghjdaaXFnExactFirstFitx5
namespace Go.Proofs.Ytcmmammefghjdaa.Pure
open Go.RowKit Go.Proofs.Ytcmmammefghjdaa.XFnExactFirstFit Go.Proofs.YtcmmammefghjdaaW.PrintWords Go.Proofs.YtcmmammefghjdaaW.PrintLast
set_option linter.unusedVariables false
set_option linter.unusedSimpArgs false
theorem wf64 {x : Int} (h : (Lit.int .i64 x).wf = true) : -9223372036854775808 ≤ x ∧ x ≤ 9223372036854775807 := by
  simp only [Lit.wf, IntKind.min, IntKind.max, IntKind.signed, IntKind.bits, Bool.and_eq_true, decide_eq_true_eq, if_true] at h
  omega
theorem w64 {x : Int} (h0 : -9223372036854775808 ≤ x) (h1 : x ≤ 9223372036854775807) : wrap64 x = x := by
  unfold wrap64
  omega
theorem succ_of {d k : Nat} (h : d < k) : ∃ m, k = m + 1 := ⟨k - 1, by omega⟩
theorem rd_nat (l : List Int) (i : Nat) : rd l (i : Int) = l.getD i 0 := by simp [rd]
theorem rd_get (l : List Int) (i : Nat) (h : i < l.length) : rd l (i : Int) = l[i] := by simp [rd, List.getD_eq_getElem?_getD, h]
theorem w1 {i : Nat} (h : i ≤ 140737488355328) : wrap64 ((i : Int) + 1) = ((i + 1 : Nat) : Int) := by
  unfold wrap64
  omega
theorem lt_t {i n : Nat} (h : i < n) : ((i : Int) < (n : Int)) = True := eq_true (by omega)
theorem lt_f {i n : Nat} (h : n ≤ i) : ((i : Int) < (n : Int)) = False := eq_false (by omega)
theorem nn_t (i : Nat) : (0 ≤ (i : Int)) = True := eq_true (by omega)
theorem w64n (n : Nat) (h : n ≤ 9223372036854775807) : wrap64 (n : Int) = (n : Int) := w64 (by omega) (by omega)
theorem w64sub (a b c : Nat) (ha : a ≤ 9223372036854775807) (h : a = b + c) : wrap64 ((a : Int) - (b : Int)) = (c : Int) := by
  rw [w64 (by omega) (by omega)]
  omega

theorem toIntS_l (l : List Int) (hl : l.length ≤ 35184372088832) (d : Nat) : ∀ (k : Nat) (ys : List Int) (i : Nat), l.length - i = d → i ≤ l.length → ys.length = l.length → ys.take i = l.take i → d < k → laws_toIntS.l0 k l ys (i : Int) = some l := by
  induction d with
  | zero =>
    intro k ys i hd hi hy ht hk
    obtain ⟨k, rfl⟩ := succ_of hk
    simp only [laws_toIntS.l0]
    rw [if_neg (by omega)]
    have : i = l.length := by omega
    subst this
    rw [List.take_length, ← hy, List.take_length] at ht
    rw [ht]
  | succ d ih =>
    intro k ys i hd hi hy ht hk
    obtain ⟨k, rfl⟩ := succ_of hk
    simp only [laws_toIntS.l0]
    rw [if_pos (by omega), if_pos (by omega), if_pos (by omega), w1 (by omega), rd_get l i (by omega)]
    refine ih k _ (i + 1) (by omega) (by omega) (by simp [hy]) ?_ (by omega)
    rw [Int.toNat_natCast, List.take_add_one, List.take_add_one, List.take_set_of_le (Nat.le_refl _), ht]
    simp [hy, show i < l.length by omega]
theorem toIntS (l : List Int) (hl : l.length ≤ 35184372088832) (k : Nat) (hk : l.length < k) : laws_toIntS.f k l = some l := by
  unfold laws_toIntS.f
  rw [if_pos (by omega), if_pos (by omega)]
  exact toIntS_l l hl l.length k _ 0 (by omega) (by omega) (by simp) rfl hk
theorem eqIntS_l (l m : List Int) (hl : l.length ≤ 35184372088832) (he : l.length = m.length) (d : Nat) : ∀ (k : Nat) (i : Nat), l.length - i = d → i ≤ l.length → d < k → laws_eqIntS.l0 k l m (i : Int) = some (decide (l.drop i = m.drop i)) := by
  induction d with
  | zero =>
    intro k i hd hi hk
    obtain ⟨k, rfl⟩ := succ_of hk
    simp only [laws_eqIntS.l0]
    rw [if_neg (by omega), List.drop_of_length_le (by omega), List.drop_of_length_le (by omega)]
    simp
  | succ d ih =>
    intro k i hd hi hk
    obtain ⟨k, rfl⟩ := succ_of hk
    simp only [laws_eqIntS.l0]
    rw [if_pos (by omega), if_pos (by omega), if_pos (by omega), w1 (by omega), rd_get l i (by omega), rd_get m i (by omega), ih k (i + 1) (by omega) (by omega) (by omega)]
    have h1 := List.drop_eq_getElem_cons (show i < l.length by omega)
    have h2 := List.drop_eq_getElem_cons (show i < m.length by omega)
    by_cases e : l[i]'(by omega) = m[i]'(by omega)
    · rw [if_pos e, h1, h2]
      simp only [List.cons.injEq, e, true_and]
    · rw [if_neg e, h1, h2]
      simp only [List.cons.injEq, e, false_and, decide_false]
theorem eqIntS (l m : List Int) (hl : l.length ≤ 35184372088832) (k : Nat) (hk : l.length < k) : laws_eqIntS.f k l m = some (decide (l = m)) := by
  unfold laws_eqIntS.f
  by_cases e : l.length = m.length
  · rw [if_pos (by omega)]
    have := eqIntS_l l m hl e l.length k 0 (by omega) (by omega) hk
    simpa using this
  · rw [if_neg (by omega)]
    have : l ≠ m := fun h => e (by rw [h])
    simp [this]

theorem within_f (a b c : Int) : impl_within.f a b c = some (decide (b ≤ a ∧ a ≤ c)) := by
  unfold impl_within.f
  by_cases h : a ≥ b
  · rw [if_pos h]; simp [show b ≤ a from h]
  · rw [if_neg h]; simp [show ¬ b ≤ a from h]
theorem l01In_f (a b c : Int) : spec_l01In.f a b c = some (decide (b ≤ a ∧ a ≤ c)) := by
  unfold spec_l01In.f
  by_cases h : a ≥ b
  · rw [if_pos h]; simp [show b ≤ a from h]
  · rw [if_neg h]; simp [show ¬ b ≤ a from h]

theorem bars_l (bar : Int) (l : List Int) (hl : l.length ≤ 8) (d : Nat) : ∀ (k i : Nat), l.length - i = d → i ≤ l.length → d < k → spec_BarsOk.l0 k bar l (l.length : Int) (i : Int) = some ((l.drop i).all fun p => decide (1 ≤ p ∧ p ≤ bar)) := by
  induction d with
  | zero =>
    intro k i hd hi hk
    obtain ⟨k, rfl⟩ := succ_of hk
    simp only [spec_BarsOk.l0, lt_f (show l.length ≤ i by omega), if_false, List.drop_of_length_le (show l.length ≤ i by omega), List.all_nil]
  | succ d ih =>
    intro k i hd hi hk
    obtain ⟨k, rfl⟩ := succ_of hk
    have hlt : i < l.length := by omega
    have hih := ih k (i + 1) (by omega) (by omega) (by omega)
    rw [List.drop_eq_getElem_cons hlt, List.all_cons]
    simp only [spec_BarsOk.l0, lt_t hlt, nn_t, if_true, rd_get l i hlt, l01In_f, Option.bind_some, w1 (show i ≤ 140737488355328 by omega), hih]
    by_cases g : 1 ≤ l[i] ∧ l[i] ≤ bar
    · simp [g]
    · simp [g]
theorem bars_f (bar : Int) (l : List Int) (k : Nat) (hk : 9 < k) : spec_BarsOk.f k bar l = impl_BarsOk.f bar l := by
  unfold spec_BarsOk.f impl_BarsOk.f
  obtain ⟨k, rfl⟩ := succ_of hk
  simp only [l01In_f, Option.bind_some, spec_BarsOk.j0]
  by_cases h1 : 1 ≤ bar ∧ bar ≤ 1000
  · by_cases h2 : l.length ≤ 8
    · have := bars_l bar l h2 l.length k 0 (by omega) (by omega) (by omega)
      simp only [Int.ofNat_zero, List.drop_zero] at this
      rw [this]
      generalize (l.all fun p => decide (1 ≤ p ∧ p ≤ bar)) = q
      simp [h1, h2, show ¬ (l.length : Int) > 8 by omega]
    · simp [h1, h2, show (l.length : Int) > 8 by omega]
  · simp [h1]

def iota (n : Nat) : List Int := (List.range n).map fun j : Nat => (j : Int)
theorem iota_len (n : Nat) : (iota n).length = n := by simp [iota]
theorem iota_snoc (n : Nat) : iota n ++ [(n : Int)] = iota (n + 1) := by simp [iota, List.range_succ]
theorem iota_drop (n i : Nat) (h : i < n) : (iota n).drop i = (i : Int) :: (iota n).drop (i + 1) := by
  rw [List.drop_eq_getElem_cons (by rw [iota_len]; exact h)]
  simp [iota]

def fAt (left : List Int) (p : Int) : Nat := left.findIdx (fun x => decide (p ≤ x))
theorem fAt_le (left : List Int) (p : Int) : fAt left p ≤ left.length := List.findIdx_le_length
theorem fAt_hit {left : List Int} {p : Int} (h : fAt left p < left.length) : p ≤ left[fAt left p] := by
  have h2 := List.findIdx_getElem (xs := left) (p := fun x => decide (p ≤ x)) (w := h)
  exact of_decide_eq_true h2
theorem fAt_miss {left : List Int} {p : Int} {j : Nat} (h : j < fAt left p) : left[j]'(Nat.lt_of_lt_of_le h (fAt_le _ _)) < p := by
  have := List.not_of_lt_findIdx h
  simp at this
  omega
theorem fAt_eq {left : List Int} {p : Int} {j : Nat} (hj : j < left.length) (h1 : p ≤ left[j]) (h2 : j ≤ fAt left p) : fAt left p = j := by
  rcases Nat.lt_or_ge j (fAt left p) with h | h
  · have := fAt_miss h
    omega
  · omega
def nxt (bar : Int) (left : List Int) (p : Int) : List Int := if fAt left p < left.length then left.set (fAt left p) (rd left ((fAt left p : Nat) : Int) - p) else left ++ [bar - p]
theorem nxt_len (bar : Int) (left : List Int) (p : Int) : (nxt bar left p).length = if fAt left p < left.length then left.length else left.length + 1 := by
  unfold nxt
  split <;> simp
def fitL (bar : Int) (ps : List Int) : List Int → List Int → List Int → List Int
  | [], plan, _ => plan
  | i :: o, plan, left => fitL bar ps o (plan.set i.toNat ((fAt left (rd ps i) : Nat) : Int)) (nxt bar left (rd ps i))
structure Fits (bar : Int) (ps left : List Int) : Prop where
  bar_ok : 1 ≤ bar ∧ bar ≤ 1000
  each : ∀ i : Int, 0 ≤ i → i < (ps.length : Int) → 1 ≤ rd ps i ∧ rd ps i ≤ bar
  left_ok : ∀ x ∈ left, 0 ≤ x ∧ x ≤ bar
theorem Fits.next {bar : Int} {ps left : List Int} (h : Fits bar ps left) (i : Int) (h0 : 0 ≤ i) (h1 : i < (ps.length : Int)) : Fits bar ps (nxt bar left (rd ps i)) := by
  refine ⟨h.bar_ok, h.each, fun x hx => ?_⟩
  have hp := h.each i h0 h1
  unfold nxt at hx
  by_cases e : fAt left (rd ps i) < left.length
  · rw [if_pos e] at hx
    rcases List.mem_or_eq_of_mem_set hx with hx | hx
    · exact h.left_ok x hx
    · have h2 := h.left_ok _ (List.getElem_mem e)
      have h3 := fAt_hit e
      rw [rd_get _ _ e] at hx
      omega
  · rw [if_neg e, List.mem_append, List.mem_singleton] at hx
    rcases hx with hx | hx
    · exact h.left_ok x hx
    · omega
theorem rd_snoc (l : List Int) (x : Int) : rd (l ++ [x]) (l.length : Int) = x := by
  rw [rd_get _ _ (by simp)]
  simp
theorem set_snoc (l : List Int) (x y : Int) : (l ++ [x]).set l.length y = l ++ [y] := by
  simp [List.set_append]
theorem impl_l1 (bar : Int) (ps plan left : List Int) (W : Fits bar ps left) (hl : left.length ≤ 20) (i : Int) (h0 : 0 ≤ i) (h1 : i < (ps.length : Int)) (hpl : plan.length = ps.length) (ord : List Int) (n c : Int) (K : Nat) (d : Nat) : ∀ j : Nat, j ≤ fAt left (rd ps i) → fAt left (rd ps i) - j = d →
    impl_firstFit.l1 (K + d + 1) bar ps plan left i (j : Int) ord n c = impl_firstFit.l0 K bar ps (plan.set i.toNat ((fAt left (rd ps i) : Nat) : Int)) (nxt bar left (rd ps i)) ord n (wrap64 (c + 1)) := by
  have hp := W.each i h0 h1
  have hb := W.bar_ok
  induction d with
  | zero =>
    intro j hj hd
    have ej : j = fAt left (rd ps i) := by omega
    simp only [Nat.add_zero, impl_firstFit.l1]
    by_cases e : j < left.length
    · have h2 : rd ps i ≤ left[j] := by subst ej; exact fAt_hit e
      have h3 := W.left_ok _ (List.getElem_mem e)
      have hn : nxt bar left (rd ps i) = left.set j (left[j] - rd ps i) := by
        unfold nxt
        rw [← ej, if_pos e, rd_get _ _ e]
      rw [if_pos (by omega), if_pos (by omega), if_pos h0, if_pos h1, rd_get left j e, if_neg (by omega), if_neg (by omega), if_pos (by omega), w64 (by omega) (by omega), Int.toNat_natCast, hn, ← ej]
    · have e2 : left.length = j := by have := fAt_le left (rd ps i); omega
      have hn : nxt bar left (rd ps i) = left ++ [bar - rd ps i] := by
        unfold nxt
        rw [← ej, if_neg e]
      rw [if_neg (by omega), if_pos (by omega), if_pos (by omega)]
      simp only [Option.bind_some]
      rw [if_pos (by omega), if_pos (by simp; omega), if_pos h0, if_pos h1, if_pos (by omega), ← e2, rd_snoc, w64 (by omega) (by omega), Int.toNat_natCast, set_snoc, hn]
      rw [← ej, ← e2]
  | succ d ih =>
    intro j hj hd
    have hlt : j < fAt left (rd ps i) := by omega
    have e : j < left.length := Nat.lt_of_lt_of_le hlt (fAt_le _ _)
    have h2 := fAt_miss hlt
    rw [show K + (d + 1) + 1 = (K + d + 1) + 1 by omega, impl_firstFit.l1]
    rw [if_pos (by omega), if_pos (by omega), if_pos h0, if_pos h1, rd_get left j e, if_pos h2, w1 (by omega)]
    exact ih (j + 1) (by omega) (by omega)
theorem impl_l0 (bar : Int) (ps : List Int) (hps : ps.length ≤ 8) (ord : List Int) (hord : ord.length ≤ 8) (ho : ∀ x ∈ ord, 0 ≤ x ∧ x < (ps.length : Int)) (d : Nat) : ∀ (K c : Nat) (plan left : List Int), Fits bar ps left → ord.length - c = d → c ≤ ord.length → plan.length = ps.length → left.length ≤ c → 20 * d < K →
    impl_firstFit.l0 K bar ps plan left ord (ord.length : Int) (c : Int) = some (fitL bar ps (ord.drop c) plan left) := by
  induction d with
  | zero =>
    intro K c plan left W hd hc hp hl hK
    obtain ⟨K, rfl⟩ := succ_of hK
    simp only [impl_firstFit.l0]
    rw [if_neg (by omega), List.drop_of_length_le (by omega)]
    rfl
  | succ d ih =>
    intro K c plan left W hd hc hp hl hK
    obtain ⟨K, rfl⟩ := succ_of (show 0 < K by omega)
    have hlt : c < ord.length := by omega
    have hm := ho _ (List.getElem_mem hlt)
    have ha := fAt_le left (rd ps ord[c])
    simp only [impl_firstFit.l0]
    rw [if_pos (by omega), if_pos (by omega), if_pos (by omega), rd_get ord c hlt]
    obtain ⟨K2, rfl⟩ : ∃ m, K = m + fAt left (rd ps ord[c]) + 1 := ⟨K - fAt left (rd ps ord[c]) - 1, by omega⟩
    have h1 := impl_l1 bar ps plan left W (by omega) ord[c] hm.1 hm.2 hp ord (ord.length : Int) (c : Int) K2 (fAt left (rd ps ord[c])) 0 (by omega) (by omega)
    rw [Int.ofNat_zero] at h1
    rw [h1, w1 (by omega), ih K2 (c + 1) _ _ (W.next _ hm.1 hm.2) (by omega) (by omega) (by rw [List.length_set]; exact hp) (by rw [nxt_len]; split <;> omega) (by omega), List.drop_eq_getElem_cons hlt]
    rfl
theorem spec_l1 (bar : Int) (ps plan left : List Int) (W : Fits bar ps left) (hl : left.length ≤ 20) (i : Int) (h0 : 0 ≤ i) (h1 : i < (ps.length : Int)) (hpl : plan.length = ps.length) (ord : List Int) (n c : Int) (K : Nat) (d : Nat) : ∀ j : Nat, j ≤ left.length → left.length - j = d →
    spec_l18Fit.l1 (K + d + 1) bar ps plan left i ((if fAt left (rd ps i) < j then fAt left (rd ps i) else left.length : Nat) : Int) ord n c (left.length : Int) (j : Int) = spec_l18Fit.l0 K bar ps (plan.set i.toNat ((fAt left (rd ps i) : Nat) : Int)) (nxt bar left (rd ps i)) ord n (wrap64 (c + 1)) := by
  have hp := W.each i h0 h1
  have hb := W.bar_ok
  have ha := fAt_le left (rd ps i)
  induction d with
  | zero =>
    intro j hj hd
    have ej : j = left.length := by omega
    have ec : (if fAt left (rd ps i) < j then fAt left (rd ps i) else left.length) = fAt left (rd ps i) := by split <;> omega
    rw [ec]
    simp only [Nat.add_zero, spec_l18Fit.l1]
    rw [if_neg (by omega)]
    by_cases e : fAt left (rd ps i) < left.length
    · have h2 := fAt_hit e
      have h3 := W.left_ok _ (List.getElem_mem e)
      have hn : nxt bar left (rd ps i) = left.set (fAt left (rd ps i)) (left[fAt left (rd ps i)] - rd ps i) := by
        unfold nxt
        rw [if_pos e, rd_get _ _ e]
      rw [if_neg (by omega), if_pos (by omega), if_pos (by omega), if_pos h0, if_pos h1, if_pos (by omega), rd_get left _ e, w64 (by omega) (by omega), Int.toNat_natCast, hn]
    · have e2 : fAt left (rd ps i) = left.length := by omega
      have hn : nxt bar left (rd ps i) = left ++ [bar - rd ps i] := by
        unfold nxt
        rw [if_neg e]
      rw [if_pos (by omega), if_pos (by omega)]
      simp only [Option.bind_some]
      rw [if_pos (by omega), if_pos (by simp; omega), if_pos h0, if_pos h1, if_pos (by omega), e2, rd_snoc, w64 (by omega) (by omega), Int.toNat_natCast, set_snoc, hn]
  | succ d ih =>
    intro j hj hd
    have e : j < left.length := by omega
    have hih := ih (j + 1) (by omega) (by omega)
    rw [show K + (d + 1) + 1 = (K + d + 1) + 1 by omega, spec_l18Fit.l1]
    rw [if_pos (by omega), if_pos (by omega), if_pos (by omega), if_pos h0, if_pos h1, rd_get left j e, w1 (by omega)]
    by_cases h2 : rd ps i ≤ left[j]
    · rw [if_pos (by omega)]
      by_cases h3 : fAt left (rd ps i) < j
      · rw [if_pos h3, if_neg (by omega)]
        rw [if_pos (show fAt left (rd ps i) < j + 1 by omega)] at hih
        exact hih
      · have h4 := fAt_eq e h2 (by omega)
        rw [if_neg h3, if_pos (by omega)]
        rw [if_pos (show fAt left (rd ps i) < j + 1 by omega)] at hih
        rw [h4] at hih ⊢
        exact hih
    · rw [if_neg (by omega)]
      have h4 : fAt left (rd ps i) ≠ j := by
        intro h5
        have := fAt_hit (left := left) (p := rd ps i) (by omega)
        simp only [h5] at this
        exact h2 this
      have h6 : (fAt left (rd ps i) < j + 1) = (fAt left (rd ps i) < j) := propext ⟨fun _ => by omega, fun _ => by omega⟩
      simp only [h6] at hih
      exact hih
theorem spec_l0 (bar : Int) (ps : List Int) (hps : ps.length ≤ 8) (ord : List Int) (hord : ord.length ≤ 8) (ho : ∀ x ∈ ord, 0 ≤ x ∧ x < (ps.length : Int)) (d : Nat) : ∀ (K c : Nat) (plan left : List Int), Fits bar ps left → ord.length - c = d → c ≤ ord.length → plan.length = ps.length → left.length ≤ c → 20 * d < K →
    spec_l18Fit.l0 K bar ps plan left ord (ord.length : Int) (c : Int) = some (fitL bar ps (ord.drop c) plan left) := by
  induction d with
  | zero =>
    intro K c plan left W hd hc hp hl hK
    obtain ⟨K, rfl⟩ := succ_of hK
    simp only [spec_l18Fit.l0]
    rw [if_neg (by omega), List.drop_of_length_le (by omega)]
    rfl
  | succ d ih =>
    intro K c plan left W hd hc hp hl hK
    obtain ⟨K, rfl⟩ := succ_of (show 0 < K by omega)
    have hlt : c < ord.length := by omega
    have hm := ho _ (List.getElem_mem hlt)
    simp only [spec_l18Fit.l0]
    rw [if_pos (by omega), if_pos (by omega), if_pos (by omega), rd_get ord c hlt]
    obtain ⟨K2, rfl⟩ : ∃ m, K = m + left.length + 1 := ⟨K - left.length - 1, by omega⟩
    have h1 := spec_l1 bar ps plan left W (by omega) ord[c] hm.1 hm.2 hp ord (ord.length : Int) (c : Int) K2 left.length 0 (by omega) (by omega)
    rw [if_neg (by omega), Int.ofNat_zero] at h1
    rw [h1, w1 (by omega), ih K2 (c + 1) _ _ (W.next _ hm.1 hm.2) (by omega) (by omega) (by rw [List.length_set]; exact hp) (by rw [nxt_len]; split <;> omega) (by omega), List.drop_eq_getElem_cons hlt]
    rfl
theorem fitL_len (bar : Int) (ps : List Int) : ∀ (o plan left : List Int), (fitL bar ps o plan left).length = plan.length
  | [], _, _ => rfl
  | i :: o, plan, left => by rw [fitL, fitL_len bar ps o, List.length_set]
theorem impl_fit (bar : Int) (ps : List Int) (hps : ps.length ≤ 8) (ord : List Int) (hord : ord.length ≤ 8) (ho : ∀ x ∈ ord, 0 ≤ x ∧ x < (ps.length : Int)) (W : Fits bar ps []) (K : Nat) (hK : 170 < K) : impl_firstFit.f0 K bar ps ord = some (fitL bar ps ord (List.replicate ps.length 0) []) := by
  unfold impl_firstFit.f0
  rw [if_pos (by omega), Int.toNat_natCast, if_pos (by omega)]
  have := impl_l0 bar ps hps ord hord ho ord.length K 0 (List.replicate ps.length 0) [] W (by omega) (by omega) (by simp) (by simp) (by omega)
  exact this
theorem spec_fit (bar : Int) (ps : List Int) (hps : ps.length ≤ 8) (ord : List Int) (hord : ord.length ≤ 8) (ho : ∀ x ∈ ord, 0 ≤ x ∧ x < (ps.length : Int)) (W : Fits bar ps []) (K : Nat) (hK : 170 < K) : spec_l18Fit.f K bar ps ord = some (fitL bar ps ord (List.replicate ps.length 0) []) := by
  unfold spec_l18Fit.f
  rw [if_pos (by omega), Int.toNat_natCast, if_pos (by omega)]
  have := spec_l0 bar ps hps ord hord ho ord.length K 0 (List.replicate ps.length 0) [] W (by omega) (by omega) (by simp) (by simp) (by omega)
  exact this
theorem orderOf_l (n : Nat) (hn : n ≤ 8) (d : Nat) : ∀ (k i : Nat), n - i = d → i ≤ n → d < k → impl_orderOf.l0 k (iota i) (n : Int) (i : Int) = some (iota n) := by
  induction d with
  | zero =>
    intro k i hd hi hk
    obtain ⟨k, rfl⟩ := succ_of hk
    have : i = n := by omega
    subst this
    simp only [impl_orderOf.l0, lt_f (Nat.le_refl i), if_false]
  | succ d ih =>
    intro k i hd hi hk
    obtain ⟨k, rfl⟩ := succ_of hk
    simp only [impl_orderOf.l0, lt_t (show i < n by omega), if_true, iota_len]
    rw [if_pos (by omega), iota_snoc, w1 (by omega)]
    exact ih k (i + 1) (by omega) (by omega) (by omega)
theorem orderOf_f (n : Nat) (hn : n ≤ 8) (k : Nat) (hk : 10 < k) : impl_orderOf.f k (n : Int) = some (iota n) := orderOf_l n hn n k 0 (by omega) (by omega) (by omega)
theorem iota_mem {n : Nat} {x : Int} (h : x ∈ iota n) : 0 ≤ x ∧ x < (n : Int) := by
  simp only [iota, List.mem_map, List.mem_range] at h
  obtain ⟨j, hj, rfl⟩ := h
  omega
theorem bars_fits {bar : Int} {ps : List Int} (h : impl_BarsOk.f bar ps = some true) : ps.length ≤ 8 ∧ Fits bar ps [] := by
  unfold impl_BarsOk.f at h
  have h := Option.some.inj h
  simp only [Bool.and_eq_true, decide_eq_true_eq, List.all_eq_true] at h
  refine ⟨h.2.1, h.1, fun i h0 h1 => ?_, by simp⟩
  obtain ⟨j, rfl⟩ := Int.eq_ofNat_of_zero_le h0
  have hj : j < ps.length := by omega
  rw [rd_get ps j hj]
  exact h.2.2 _ (List.getElem_mem hj)

theorem more_of {α : Type} {f : Nat → Option α} (h : ∀ k, LeO (f k) (f (k + 1))) {k : Nat} {r : α} (hr : f k = some r) (K : Nat) (hK : k ≤ K) : f K = some r := by
  obtain ⟨m, rfl⟩ := Nat.exists_eq_add_of_le hK
  clear hK
  induction m with
  | zero => exact hr
  | succ m ih => exact h (k + m) _ ih

def marked (a : Int) (n : Nat) : List Int := (List.range n).map fun j : Nat => a + (j : Int)
theorem marked_length (a : Int) (n : Nat) : (marked a n).length = n := by simp [marked]
theorem marked_get (a : Int) (n i : Nat) (h : i < n) : rd (marked a n) (i : Int) = a + (i : Int) := by
  rw [rd_get _ _ (by rw [marked_length]; exact h)]
  simp [marked]
theorem mark_l (n : Nat) (a : Int) (h0 : 0 ≤ a) (h1 : a + (n : Int) ≤ 4611686018427387904) (hn : n ≤ 140737488355328) (d : Nat) : ∀ (k i : Nat) (l : List Int), n - i = d → i ≤ n → l.length = n → l.take i = marked a i → d < k → laws_markIntS.l0 k l (a + (i : Int)) (i : Int) = some (a + (n : Int), marked a n) := by
  induction d with
  | zero =>
    intro k i l hd hi hl ht hk
    obtain ⟨k, rfl⟩ := succ_of hk
    have : i = n := by omega
    subst this
    subst hl
    simp only [laws_markIntS.l0, lt_f (Nat.le_refl l.length), if_false]
    rw [List.take_length] at ht
    rw [← ht]
  | succ d ih =>
    intro k i l hd hi hl ht hk
    obtain ⟨k, rfl⟩ := succ_of hk
    have hlt : i < l.length := by omega
    simp only [laws_markIntS.l0, lt_t hlt, nn_t, if_true, w1 (show i ≤ 140737488355328 by omega)]
    rw [w64 (by omega) (by omega), show a + (i : Int) + 1 = a + ((i + 1 : Nat) : Int) by omega]
    refine ih k (i + 1) _ (by omega) (by omega) (by simp [hl]) ?_ (by omega)
    rw [Int.toNat_natCast, List.take_add_one, List.take_set_of_le (Nat.le_refl _), ht]
    simp [hlt, marked, List.range_succ]
theorem mark_f (l : List Int) (a : Int) (h0 : 0 ≤ a) (h1 : a + (l.length : Int) ≤ 4611686018427387904) (hn : l.length ≤ 140737488355328) (k : Nat) (hk : l.length < k) : laws_markIntS.f k l a = some (a + (l.length : Int), marked a l.length) := by
  have := mark_l l.length a h0 h1 hn l.length k 0 l (by omega) (by omega) rfl (by simp [marked]) hk
  rw [Int.ofNat_zero, Int.add_zero] at this
  exact this
theorem held_l (n : Nat) (a : Int) (h0 : 0 ≤ a) (h1 : a + (n : Int) ≤ 4611686018427387904) (hn : n ≤ 140737488355328) (d : Nat) : ∀ (k i : Nat), n - i = d → i ≤ n → d < k → laws_heldIntS.l0 k (marked a n) (a + (i : Int)) (i : Int) = some (a + (n : Int)) := by
  induction d with
  | zero =>
    intro k i hd hi hk
    obtain ⟨k, rfl⟩ := succ_of hk
    have : i = n := by omega
    subst this
    simp only [laws_heldIntS.l0, marked_length, lt_f (Nat.le_refl i), if_false]
  | succ d ih =>
    intro k i hd hi hk
    obtain ⟨k, rfl⟩ := succ_of hk
    have hlt : i < n := by omega
    simp only [laws_heldIntS.l0, marked_length, lt_t hlt, nn_t, if_true, w1 (show i ≤ 140737488355328 by omega), marked_get a n i hlt]
    rw [w64 (by omega) (by omega), show a + (i : Int) + 1 = a + ((i + 1 : Nat) : Int) by omega]
    exact ih k (i + 1) (by omega) (by omega) (by omega)
theorem held_f (n : Nat) (a : Int) (h0 : 0 ≤ a) (h1 : a + (n : Int) ≤ 4611686018427387904) (hn : n ≤ 140737488355328) (k : Nat) (hk : n < k) : laws_heldIntS.f k (marked a n) a = some (a + (n : Int)) := by
  have := held_l n a h0 h1 hn n k 0 (by omega) (by omega) hk
  rw [Int.ofNat_zero, Int.add_zero] at this
  exact this

def canon : Nat → List Int → Prop
  | _, [] => True
  | m, a :: t => 0 ≤ a ∧ a ≤ (m : Int) ∧ canon (if a = (m : Int) then m + 1 else m) t
theorem iota_mem_iff (m : Nat) (a : Int) : a ∈ iota m ↔ 0 ≤ a ∧ a < (m : Int) := by
  constructor
  · exact iota_mem
  · intro h
    obtain ⟨j, rfl⟩ := Int.eq_ofNat_of_zero_le h.1
    simp only [iota, List.mem_map, List.mem_range]
    exact ⟨j, by omega, rfl⟩
theorem iota_idx (m : Nat) (j : Nat) (h : j < m) : (iota m).idxOf (j : Int) = j := by
  induction m with
  | zero => omega
  | succ m ih =>
    rw [← iota_snoc, List.idxOf_append]
    by_cases e : j < m
    · rw [if_pos ((iota_mem_iff m _).mpr (by omega)), ih e]
    · have : j = m := by omega
      subst this
      rw [if_neg (fun h => by have := iota_mem h; omega), iota_len]
      simp
theorem canon_renum (x : List Int) (hx : x.length ≤ 8) (d : Nat) : ∀ (k i m : Nat), x.length - i = d → i ≤ x.length → m ≤ i → canon m (x.drop i) → d < k → renum k x (iota m) (i : Int) = some x := by
  induction d with
  | zero =>
    intro k i m hd hi hm hc hk
    obtain ⟨k, rfl⟩ := succ_of hk
    simp only [renum]
    rw [if_neg (by omega)]
  | succ d ih =>
    intro k i m hd hi hm hc hk
    obtain ⟨k, rfl⟩ := succ_of hk
    have hlt : i < x.length := by omega
    rw [List.drop_eq_getElem_cons hlt] at hc
    obtain ⟨h1, h2, h3⟩ := hc
    simp only [renum]
    rw [if_pos (by omega), rd_get x i hlt, if_pos ⟨⟨by omega, by rw [iota_len]; omega⟩, by omega, by omega⟩, w1 (by omega)]
    obtain ⟨a, ha⟩ := Int.eq_ofNat_of_zero_le h1
    have hset : x.set i (a : Int) = x := by rw [← ha]; exact List.set_getElem_self hlt
    rw [ha] at h3 h2 ⊢
    by_cases e : (a : Int) = (m : Int)
    · have e2 : a = m := by omega
      subst e2
      rw [if_pos rfl] at h3
      have hg : grow (iota a) (a : Int) = iota (a + 1) := by
        unfold grow
        rw [if_neg (fun h => by have := iota_mem h; omega), iota_snoc]
      rw [hg, iota_idx (a + 1) a (by omega), Int.toNat_natCast, hset]
      exact ih k (i + 1) (a + 1) (by omega) (by omega) (by omega) h3 (by omega)
    · rw [if_neg e] at h3
      have hg : grow (iota m) (a : Int) = iota m := by
        unfold grow
        rw [if_pos ((iota_mem_iff m _).mpr (by omega))]
      rw [hg, iota_idx m a (by omega), Int.toNat_natCast, hset]
      exact ih k (i + 1) m (by omega) (by omega) (by omega) h3 (by omega)
theorem fit_canon (bar : Int) (ps : List Int) (n : Nat) (d : Nat) : ∀ (c : Nat) (plan left : List Int), n - c = d → c ≤ n → plan.length = n → (fitL bar ps ((iota n).drop c) plan left).take c = plan.take c ∧ canon left.length ((fitL bar ps ((iota n).drop c) plan left).drop c) := by
  induction d with
  | zero =>
    intro c plan left hd hc hp
    rw [List.drop_of_length_le (by rw [iota_len]; omega)]
    refine ⟨rfl, ?_⟩
    show canon _ (plan.drop c)
    rw [List.drop_of_length_le (by omega)]
    trivial
  | succ d ih =>
    intro c plan left hd hc hp
    rw [iota_drop n c (by omega)]
    show (fitL bar ps ((iota n).drop (c + 1)) _ _).take c = _ ∧ canon _ ((fitL bar ps ((iota n).drop (c + 1)) _ _).drop c)
    generalize hq : plan.set ((c : Nat) : Int).toNat ((fAt left (rd ps (c : Int)) : Nat) : Int) = plan'
    rw [Int.toNat_natCast] at hq
    have hl' : plan'.length = n := by rw [← hq, List.length_set]; exact hp
    obtain ⟨h1, h2⟩ := ih (c + 1) plan' (nxt bar left (rd ps (c : Int))) (by omega) (by omega) hl'
    have hl2 : (fitL bar ps ((iota n).drop (c + 1)) plan' (nxt bar left (rd ps (c : Int)))).length = n := by rw [fitL_len, hl']
    generalize fitL bar ps ((iota n).drop (c + 1)) plan' (nxt bar left (rd ps (c : Int))) = r at h1 h2 hl2
    have h3 : r.take c = plan.take c := by
      have := congrArg (List.take c) h1
      rw [List.take_take, List.take_take, Nat.min_eq_left (by omega)] at this
      rw [this, ← hq, List.take_set_of_le (Nat.le_refl _)]
    refine ⟨h3, ?_⟩
    have hlt : c < r.length := by omega
    have h4 : r[c] = ((fAt left (rd ps (c : Int)) : Nat) : Int) := by
      have h5 : r[c]? = plan'[c]? := by
        have := congrArg (fun z => z[c]?) h1
        simp only [List.getElem?_take_of_lt (Nat.lt_succ_self c)] at this
        exact this
      rw [List.getElem?_eq_getElem hlt, ← hq, List.getElem?_set_self (by omega)] at h5
      exact Option.some.inj h5
    rw [List.drop_eq_getElem_cons hlt, h4]
    have ha := fAt_le left (rd ps (c : Int))
    rw [nxt_len] at h2
    refine ⟨by omega, by omega, ?_⟩
    by_cases e : fAt left (rd ps (c : Int)) < left.length
    · rw [if_neg (by omega)]
      rw [if_pos e] at h2
      exact h2
    · rw [if_pos (by omega)]
      rw [if_neg e] at h2
      exact h2
theorem spec_order_l (bar : Int) (ps : List Int) (hn : ps.length ≤ 8) (d : Nat) : ∀ (k i : Nat), ps.length - i = d → i ≤ ps.length → Fits bar ps [] → d + 200 < k → spec_FirstFit.l0 k bar ps (iota i) (ps.length : Int) (i : Int) = some (fitL bar ps (iota ps.length) (List.replicate ps.length 0) []) := by
  induction d with
  | zero =>
    intro k i hd hi W hk
    obtain ⟨k, rfl⟩ := succ_of (show 0 < k by omega)
    have : i = ps.length := by omega
    subst this
    simp only [spec_FirstFit.l0, lt_f (Nat.le_refl ps.length), if_false]
    rw [spec_fit bar ps hn (iota ps.length) (by rw [iota_len]; exact hn) (fun x hx => iota_mem hx) W k (by omega)]
    rfl
  | succ d ih =>
    intro k i hd hi W hk
    obtain ⟨k, rfl⟩ := succ_of (show 0 < k by omega)
    simp only [spec_FirstFit.l0, lt_t (show i < ps.length by omega), if_true, iota_len]
    rw [if_pos (by omega), iota_snoc, w1 (by omega)]
    exact ih k (i + 1) (by omega) (by omega) W (by omega)
theorem firstFit_eq (bar : Int) (ps : List Int) (k : Nat) (hk : 300 < k) : ∃ r, spec_FirstFit.f k bar ps = some r ∧ impl_FirstFit.f k bar ps = some r ∧ r.length ≤ 8 := by
  unfold spec_FirstFit.f impl_FirstFit.f
  rw [bars_f bar ps k (by omega)]
  obtain ⟨b, hb⟩ : ∃ b, impl_BarsOk.f bar ps = some b := ⟨_, rfl⟩
  rw [hb]
  simp only [Option.bind_some]
  cases b with
  | false => exact ⟨[], rfl, rfl, by simp⟩
  | true =>
    obtain ⟨hn, W⟩ := bars_fits hb
    refine ⟨fitL bar ps (iota ps.length) (List.replicate ps.length 0) [], ?_, ?_, by rw [fitL_len]; simpa using hn⟩
    · have := spec_order_l bar ps hn ps.length k 0 (by omega) (by omega) W (by omega)
      rw [if_pos rfl]
      exact this
    · rw [if_pos rfl, orderOf_f ps.length hn k (by omega)]
      simp only [Option.bind_some, impl_firstFit.f]
      rw [impl_fit bar ps hn (iota ps.length) (by rw [iota_len]; exact hn) (fun x hx => iota_mem hx) W k (by omega)]
      have h1 := (fit_canon bar ps ps.length ps.length 0 (List.replicate ps.length 0) [] (by omega) (by omega) (by simp)).2
      rw [List.drop_zero, List.drop_zero] at h1
      have hl : (fitL bar ps (iota ps.length) (List.replicate ps.length 0) []).length = ps.length := by rw [fitL_len]; simp
      have h2 := canon_renum _ (by rw [hl]; exact hn) _ k 0 0 rfl (by omega) (by omega) h1 (by rw [hl]; omega)
      have h3 : renum k (fitL bar ps (iota ps.length) (List.replicate ps.length 0) []) [] 0 = some (fitL bar ps (iota ps.length) (List.replicate ps.length 0) []) := h2
      simp only [Option.bind_some, h3]
theorem FnExactFirstFit : laws_FnExactFirstFit.Pure := by
  intro bar l _ _ _ _
  refine ⟨2097160, ?_⟩
  unfold laws_FnExactFirstFit.f
  by_cases hbig : (l.length : Int) > 1048576
  · rw [if_pos hbig]
  rw [if_neg hbig]
  obtain ⟨r, h1, h2, hr⟩ := firstFit_eq bar l 2097160 (by omega)
  obtain ⟨r', h1', h2', _⟩ := firstFit_eq bar l 2097159 (by omega)
  have e : r' = r := by
    have := more_of (f := fun k => spec_FirstFit.f k bar l) (fun k => spec_FirstFit.mono _ _ k) h1' 2097160 (by omega)
    exact Option.some.inj (this.symm.trans h1)
  subst e
  rw [toIntS l (by omega) _ (by omega)]
  simp only [Option.bind_some, h1, h2, eqIntS r' r' (by omega) _ (show r'.length < 2097160 by omega), decide_true, if_true, eqIntS l l (by omega) _ (show l.length < 2097160 by omega), mark_f l 1 (by omega) (by omega) (by omega) 2097160 (by omega)]
  rw [if_neg (by omega)]
  simp only [laws_FnExactFirstFit.j0, Bool.not_true, Bool.false_eq_true, if_false, mark_f r' 1 (by omega) (by omega) (by omega) 2097159 (by omega), held_f r'.length 1 (by omega) (by omega) (by omega) 2097159 (by omega), Option.bind_some, if_true, toIntS l (by omega) 2097159 (by omega), h2', eqIntS r' r' (by omega) 2097159 (by omega), decide_true]
  rw [if_neg (by omega)]
  rw [if_neg (by omega)]

end Go.Proofs.Ytcmmammefghjdaa.Pure
