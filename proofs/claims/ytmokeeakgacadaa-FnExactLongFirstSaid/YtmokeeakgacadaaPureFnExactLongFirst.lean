/- LongFirst: the same order, the same plan, the bars numbered anew alike. -/
import Derived.Test.YtmokeeakgacadaaXFnExactLongFirstx8
namespace Go.Proofs.Ytmokeeakgacadaa.Pure
open Go.RowKit Go.Proofs.Ytmokeeakgacadaa.XFnExactLongFirst Go.Proofs.YtmokeeakgacadaaW.PrintWords Go.Proofs.YtmokeeakgacadaaW.PrintLast
set_option linter.unusedVariables false
set_option linter.unusedSimpArgs false
theorem wf64 {x : Int} (h : (Lit.int .i64 x).wf = true) : -9223372036854775808 ≤ x ∧ x ≤ 9223372036854775807 := by
  simp only [Lit.wf, IntKind.min, IntKind.max, IntKind.signed, IntKind.bits, Bool.and_eq_true, decide_eq_true_eq, if_true] at h
  omega
theorem w64 {x : Int} (h0 : -9223372036854775808 ≤ x) (h1 : x ≤ 9223372036854775807) : wrap64 x = x := by
  unfold wrap64
  omega
theorem succ_of {d k : Nat} (h : d < k) : ∃ m, k = m + 1 := ⟨k - 1, by omega⟩
theorem rd_nat (l : List Int) (i : Nat) : rd l (i : Int) = l.getD i 0 := by simp [rd]
theorem rd_get (l : List Int) (i : Nat) (h : i < l.length) : rd l (i : Int) = l[i] := by simp [rd, List.getD_eq_getElem?_getD, h]
theorem w1 {i : Nat} (h : i ≤ 140737488355328) : wrap64 ((i : Int) + 1) = ((i + 1 : Nat) : Int) := by
  unfold wrap64
  omega
theorem lt_t {i n : Nat} (h : i < n) : ((i : Int) < (n : Int)) = True := eq_true (by omega)
theorem lt_f {i n : Nat} (h : n ≤ i) : ((i : Int) < (n : Int)) = False := eq_false (by omega)
theorem nn_t (i : Nat) : (0 ≤ (i : Int)) = True := eq_true (by omega)
theorem w64n (n : Nat) (h : n ≤ 9223372036854775807) : wrap64 (n : Int) = (n : Int) := w64 (by omega) (by omega)
theorem w64sub (a b c : Nat) (ha : a ≤ 9223372036854775807) (h : a = b + c) : wrap64 ((a : Int) - (b : Int)) = (c : Int) := by
  rw [w64 (by omega) (by omega)]
  omega

theorem toIntS_l (l : List Int) (hl : l.length ≤ 35184372088832) (d : Nat) : ∀ (k : Nat) (ys : List Int) (i : Nat), l.length - i = d → i ≤ l.length → ys.length = l.length → ys.take i = l.take i → d < k → laws_toIntS.l0 k l ys (i : Int) = some l := by
  induction d with
  | zero =>
    intro k ys i hd hi hy ht hk
    obtain ⟨k, rfl⟩ := succ_of hk
    simp only [laws_toIntS.l0]
    rw [if_neg (by omega)]
    have : i = l.length := by omega
    subst this
    rw [List.take_length, ← hy, List.take_length] at ht
    rw [ht]
  | succ d ih =>
    intro k ys i hd hi hy ht hk
    obtain ⟨k, rfl⟩ := succ_of hk
    simp only [laws_toIntS.l0]
    rw [if_pos (by omega), if_pos (by omega), if_pos (by omega), w1 (by omega), rd_get l i (by omega)]
    refine ih k _ (i + 1) (by omega) (by omega) (by simp [hy]) ?_ (by omega)
    rw [Int.toNat_natCast, List.take_add_one, List.take_add_one, List.take_set_of_le (Nat.le_refl _), ht]
    simp [hy, show i < l.length by omega]
theorem toIntS (l : List Int) (hl : l.length ≤ 35184372088832) (k : Nat) (hk : l.length < k) : laws_toIntS.f k l = some l := by
  unfold laws_toIntS.f
  rw [if_pos (by omega), if_pos (by omega)]
  exact toIntS_l l hl l.length k _ 0 (by omega) (by omega) (by simp) rfl hk
theorem eqIntS_l (l m : List Int) (hl : l.length ≤ 35184372088832) (he : l.length = m.length) (d : Nat) : ∀ (k : Nat) (i : Nat), l.length - i = d → i ≤ l.length → d < k → laws_eqIntS.l0 k l m (i : Int) = some (decide (l.drop i = m.drop i)) := by
  induction d with
  | zero =>
    intro k i hd hi hk
    obtain ⟨k, rfl⟩ := succ_of hk
    simp only [laws_eqIntS.l0]
    rw [if_neg (by omega), List.drop_of_length_le (by omega), List.drop_of_length_le (by omega)]
    simp
  | succ d ih =>
    intro k i hd hi hk
    obtain ⟨k, rfl⟩ := succ_of hk
    simp only [laws_eqIntS.l0]
    rw [if_pos (by omega), if_pos (by omega), if_pos (by omega), w1 (by omega), rd_get l i (by omega), rd_get m i (by omega), ih k (i + 1) (by omega) (by omega) (by omega)]
    have h1 := List.drop_eq_getElem_cons (show i < l.length by omega)
    have h2 := List.drop_eq_getElem_cons (show i < m.length by omega)
    by_cases e : l[i]'(by omega) = m[i]'(by omega)
    · rw [if_pos e, h1, h2]
      simp only [List.cons.injEq, e, true_and]
    · rw [if_neg e, h1, h2]
      simp only [List.cons.injEq, e, false_and, decide_false]
theorem eqIntS (l m : List Int) (hl : l.length ≤ 35184372088832) (k : Nat) (hk : l.length < k) : laws_eqIntS.f k l m = some (decide (l = m)) := by
  unfold laws_eqIntS.f
  by_cases e : l.length = m.length
  · rw [if_pos (by omega)]
    have := eqIntS_l l m hl e l.length k 0 (by omega) (by omega) hk
    simpa using this
  · rw [if_neg (by omega)]
    have : l ≠ m := fun h => e (by rw [h])
    simp [this]

theorem within_f (a b c : Int) : impl_within.f a b c = some (decide (b ≤ a ∧ a ≤ c)) := by
  unfold impl_within.f
  by_cases h : a ≥ b
  · rw [if_pos h]; simp [show b ≤ a from h]
  · rw [if_neg h]; simp [show ¬ b ≤ a from h]
theorem l01In_f (a b c : Int) : spec_l01In.f a b c = some (decide (b ≤ a ∧ a ≤ c)) := by
  unfold spec_l01In.f
  by_cases h : a ≥ b
  · rw [if_pos h]; simp [show b ≤ a from h]
  · rw [if_neg h]; simp [show ¬ b ≤ a from h]

theorem bars_l (bar : Int) (l : List Int) (hl : l.length ≤ 8) (d : Nat) : ∀ (k i : Nat), l.length - i = d → i ≤ l.length → d < k → spec_BarsOk.l0 k bar l (l.length : Int) (i : Int) = some ((l.drop i).all fun p => decide (1 ≤ p ∧ p ≤ bar)) := by
  induction d with
  | zero =>
    intro k i hd hi hk
    obtain ⟨k, rfl⟩ := succ_of hk
    simp only [spec_BarsOk.l0, lt_f (show l.length ≤ i by omega), if_false, List.drop_of_length_le (show l.length ≤ i by omega), List.all_nil]
  | succ d ih =>
    intro k i hd hi hk
    obtain ⟨k, rfl⟩ := succ_of hk
    have hlt : i < l.length := by omega
    have hih := ih k (i + 1) (by omega) (by omega) (by omega)
    rw [List.drop_eq_getElem_cons hlt, List.all_cons]
    simp only [spec_BarsOk.l0, lt_t hlt, nn_t, if_true, rd_get l i hlt, l01In_f, Option.bind_some, w1 (show i ≤ 140737488355328 by omega), hih]
    by_cases g : 1 ≤ l[i] ∧ l[i] ≤ bar
    · simp [g]
    · simp [g]
theorem bars_f (bar : Int) (l : List Int) (k : Nat) (hk : 9 < k) : spec_BarsOk.f k bar l = impl_BarsOk.f bar l := by
  unfold spec_BarsOk.f impl_BarsOk.f
  obtain ⟨k, rfl⟩ := succ_of hk
  simp only [l01In_f, Option.bind_some, spec_BarsOk.j0]
  by_cases h1 : 1 ≤ bar ∧ bar ≤ 1000
  · by_cases h2 : l.length ≤ 8
    · have := bars_l bar l h2 l.length k 0 (by omega) (by omega) (by omega)
      simp only [Int.ofNat_zero, List.drop_zero] at this
      rw [this]
      generalize (l.all fun p => decide (1 ≤ p ∧ p ≤ bar)) = q
      simp [h1, h2, show ¬ (l.length : Int) > 8 by omega]
    · simp [h1, h2, show (l.length : Int) > 8 by omega]
  · simp [h1]

def iota (n : Nat) : List Int := (List.range n).map fun j : Nat => (j : Int)
theorem iota_len (n : Nat) : (iota n).length = n := by simp [iota]
theorem iota_snoc (n : Nat) : iota n ++ [(n : Int)] = iota (n + 1) := by simp [iota, List.range_succ]
theorem iota_drop (n i : Nat) (h : i < n) : (iota n).drop i = (i : Int) :: (iota n).drop (i + 1) := by
  rw [List.drop_eq_getElem_cons (by rw [iota_len]; exact h)]
  simp [iota]

def fAt (left : List Int) (p : Int) : Nat := left.findIdx (fun x => decide (p ≤ x))
theorem fAt_le (left : List Int) (p : Int) : fAt left p ≤ left.length := List.findIdx_le_length
theorem fAt_hit {left : List Int} {p : Int} (h : fAt left p < left.length) : p ≤ left[fAt left p] := by
  have h2 := List.findIdx_getElem (xs := left) (p := fun x => decide (p ≤ x)) (w := h)
  exact of_decide_eq_true h2
theorem fAt_miss {left : List Int} {p : Int} {j : Nat} (h : j < fAt left p) : left[j]'(Nat.lt_of_lt_of_le h (fAt_le _ _)) < p := by
  have := List.not_of_lt_findIdx h
  simp at this
  omega
theorem fAt_eq {left : List Int} {p : Int} {j : Nat} (hj : j < left.length) (h1 : p ≤ left[j]) (h2 : j ≤ fAt left p) : fAt left p = j := by
  rcases Nat.lt_or_ge j (fAt left p) with h | h
  · have := fAt_miss h
    omega
  · omega
def nxt (bar : Int) (left : List Int) (p : Int) : List Int := if fAt left p < left.length then left.set (fAt left p) (rd left ((fAt left p : Nat) : Int) - p) else left ++ [bar - p]
theorem nxt_len (bar : Int) (left : List Int) (p : Int) : (nxt bar left p).length = if fAt left p < left.length then left.length else left.length + 1 := by
  unfold nxt
  split <;> simp
def fitL (bar : Int) (ps : List Int) : List Int → List Int → List Int → List Int
  | [], plan, _ => plan
  | i :: o, plan, left => fitL bar ps o (plan.set i.toNat ((fAt left (rd ps i) : Nat) : Int)) (nxt bar left (rd ps i))
structure Fits (bar : Int) (ps left : List Int) : Prop where
  bar_ok : 1 ≤ bar ∧ bar ≤ 1000
  each : ∀ i : Int, 0 ≤ i → i < (ps.length : Int) → 1 ≤ rd ps i ∧ rd ps i ≤ bar
  left_ok : ∀ x ∈ left, 0 ≤ x ∧ x ≤ bar
theorem Fits.next {bar : Int} {ps left : List Int} (h : Fits bar ps left) (i : Int) (h0 : 0 ≤ i) (h1 : i < (ps.length : Int)) : Fits bar ps (nxt bar left (rd ps i)) := by
  refine ⟨h.bar_ok, h.each, fun x hx => ?_⟩
  have hp := h.each i h0 h1
  unfold nxt at hx
  by_cases e : fAt left (rd ps i) < left.length
  · rw [if_pos e] at hx
    rcases List.mem_or_eq_of_mem_set hx with hx | hx
    · exact h.left_ok x hx
    · have h2 := h.left_ok _ (List.getElem_mem e)
      have h3 := fAt_hit e
      rw [rd_get _ _ e] at hx
      omega
  · rw [if_neg e, List.mem_append, List.mem_singleton] at hx
    rcases hx with hx | hx
    · exact h.left_ok x hx
    · omega
theorem rd_snoc (l : List Int) (x : Int) : rd (l ++ [x]) (l.length : Int) = x := by
  rw [rd_get _ _ (by simp)]
  simp
theorem set_snoc (l : List Int) (x y : Int) : (l ++ [x]).set l.length y = l ++ [y] := by
  simp [List.set_append]
theorem impl_l1 (bar : Int) (ps plan left : List Int) (W : Fits bar ps left) (hl : left.length ≤ 20) (i : Int) (h0 : 0 ≤ i) (h1 : i < (ps.length : Int)) (hpl : plan.length = ps.length) (ord : List Int) (n c : Int) (K : Nat) (d : Nat) : ∀ j : Nat, j ≤ fAt left (rd ps i) → fAt left (rd ps i) - j = d →
    impl_firstFit.l1 (K + d + 1) bar ps plan left i (j : Int) ord n c = impl_firstFit.l0 K bar ps (plan.set i.toNat ((fAt left (rd ps i) : Nat) : Int)) (nxt bar left (rd ps i)) ord n (wrap64 (c + 1)) := by
  have hp := W.each i h0 h1
  have hb := W.bar_ok
  induction d with
  | zero =>
    intro j hj hd
    have ej : j = fAt left (rd ps i) := by omega
    simp only [Nat.add_zero, impl_firstFit.l1]
    by_cases e : j < left.length
    · have h2 : rd ps i ≤ left[j] := by subst ej; exact fAt_hit e
      have h3 := W.left_ok _ (List.getElem_mem e)
      have hn : nxt bar left (rd ps i) = left.set j (left[j] - rd ps i) := by
        unfold nxt
        rw [← ej, if_pos e, rd_get _ _ e]
      rw [if_pos (by omega), if_pos (by omega), if_pos h0, if_pos h1, rd_get left j e, if_neg (by omega), if_neg (by omega), if_pos (by omega), w64 (by omega) (by omega), Int.toNat_natCast, hn, ← ej]
    · have e2 : left.length = j := by have := fAt_le left (rd ps i); omega
      have hn : nxt bar left (rd ps i) = left ++ [bar - rd ps i] := by
        unfold nxt
        rw [← ej, if_neg e]
      rw [if_neg (by omega), if_pos (by omega), if_pos (by omega)]
      simp only [Option.bind_some]
      rw [if_pos (by omega), if_pos (by simp; omega), if_pos h0, if_pos h1, if_pos (by omega), ← e2, rd_snoc, w64 (by omega) (by omega), Int.toNat_natCast, set_snoc, hn]
      rw [← ej, ← e2]
  | succ d ih =>
    intro j hj hd
    have hlt : j < fAt left (rd ps i) := by omega
    have e : j < left.length := Nat.lt_of_lt_of_le hlt (fAt_le _ _)
    have h2 := fAt_miss hlt
    rw [show K + (d + 1) + 1 = (K + d + 1) + 1 by omega, impl_firstFit.l1]
    rw [if_pos (by omega), if_pos (by omega), if_pos h0, if_pos h1, rd_get left j e, if_pos h2, w1 (by omega)]
    exact ih (j + 1) (by omega) (by omega)
theorem impl_l0 (bar : Int) (ps : List Int) (hps : ps.length ≤ 8) (ord : List Int) (hord : ord.length ≤ 8) (ho : ∀ x ∈ ord, 0 ≤ x ∧ x < (ps.length : Int)) (d : Nat) : ∀ (K c : Nat) (plan left : List Int), Fits bar ps left → ord.length - c = d → c ≤ ord.length → plan.length = ps.length → left.length ≤ c → 20 * d < K →
    impl_firstFit.l0 K bar ps plan left ord (ord.length : Int) (c : Int) = some (fitL bar ps (ord.drop c) plan left) := by
  induction d with
  | zero =>
    intro K c plan left W hd hc hp hl hK
    obtain ⟨K, rfl⟩ := succ_of hK
    simp only [impl_firstFit.l0]
    rw [if_neg (by omega), List.drop_of_length_le (by omega)]
    rfl
  | succ d ih =>
    intro K c plan left W hd hc hp hl hK
    obtain ⟨K, rfl⟩ := succ_of (show 0 < K by omega)
    have hlt : c < ord.length := by omega
    have hm := ho _ (List.getElem_mem hlt)
    have ha := fAt_le left (rd ps ord[c])
    simp only [impl_firstFit.l0]
    rw [if_pos (by omega), if_pos (by omega), if_pos (by omega), rd_get ord c hlt]
    obtain ⟨K2, rfl⟩ : ∃ m, K = m + fAt left (rd ps ord[c]) + 1 := ⟨K - fAt left (rd ps ord[c]) - 1, by omega⟩
    have h1 := impl_l1 bar ps plan left W (by omega) ord[c] hm.1 hm.2 hp ord (ord.length : Int) (c : Int) K2 (fAt left (rd ps ord[c])) 0 (by omega) (by omega)
    rw [Int.ofNat_zero] at h1
    rw [h1, w1 (by omega), ih K2 (c + 1) _ _ (W.next _ hm.1 hm.2) (by omega) (by omega) (by rw [List.length_set]; exact hp) (by rw [nxt_len]; split <;> omega) (by omega), List.drop_eq_getElem_cons hlt]
    rfl
theorem spec_l1 (bar : Int) (ps plan left : List Int) (W : Fits bar ps left) (hl : left.length ≤ 20) (i : Int) (h0 : 0 ≤ i) (h1 : i < (ps.length : Int)) (hpl : plan.length = ps.length) (ord : List Int) (n c : Int) (K : Nat) (d : Nat) : ∀ j : Nat, j ≤ left.length → left.length - j = d →
    spec_l18Fit.l1 (K + d + 1) bar ps plan left i ((if fAt left (rd ps i) < j then fAt left (rd ps i) else left.length : Nat) : Int) ord n c (left.length : Int) (j : Int) = spec_l18Fit.l0 K bar ps (plan.set i.toNat ((fAt left (rd ps i) : Nat) : Int)) (nxt bar left (rd ps i)) ord n (wrap64 (c + 1)) := by
  have hp := W.each i h0 h1
  have hb := W.bar_ok
  have ha := fAt_le left (rd ps i)
  induction d with
  | zero =>
    intro j hj hd
    have ej : j = left.length := by omega
    have ec : (if fAt left (rd ps i) < j then fAt left (rd ps i) else left.length) = fAt left (rd ps i) := by split <;> omega
    rw [ec]
    simp only [Nat.add_zero, spec_l18Fit.l1]
    rw [if_neg (by omega)]
    by_cases e : fAt left (rd ps i) < left.length
    · have h2 := fAt_hit e
      have h3 := W.left_ok _ (List.getElem_mem e)
      have hn : nxt bar left (rd ps i) = left.set (fAt left (rd ps i)) (left[fAt left (rd ps i)] - rd ps i) := by
        unfold nxt
        rw [if_pos e, rd_get _ _ e]
      rw [if_neg (by omega), if_pos (by omega), if_pos (by omega), if_pos h0, if_pos h1, if_pos (by omega), rd_get left _ e, w64 (by omega) (by omega), Int.toNat_natCast, hn]
    · have e2 : fAt left (rd ps i) = left.length := by omega
      have hn : nxt bar left (rd ps i) = left ++ [bar - rd ps i] := by
        unfold nxt
        rw [if_neg e]
      rw [if_pos (by omega), if_pos (by omega)]
      simp only [Option.bind_some]
      rw [if_pos (by omega), if_pos (by simp; omega), if_pos h0, if_pos h1, if_pos (by omega), e2, rd_snoc, w64 (by omega) (by omega), Int.toNat_natCast, set_snoc, hn]
  | succ d ih =>
    intro j hj hd
    have e : j < left.length := by omega
    have hih := ih (j + 1) (by omega) (by omega)
    rw [show K + (d + 1) + 1 = (K + d + 1) + 1 by omega, spec_l18Fit.l1]
    rw [if_pos (by omega), if_pos (by omega), if_pos (by omega), if_pos h0, if_pos h1, rd_get left j e, w1 (by omega)]
    by_cases h2 : rd ps i ≤ left[j]
    · rw [if_pos (by omega)]
      by_cases h3 : fAt left (rd ps i) < j
      · rw [if_pos h3, if_neg (by omega)]
        rw [if_pos (show fAt left (rd ps i) < j + 1 by omega)] at hih
        exact hih
      · have h4 := fAt_eq e h2 (by omega)
        rw [if_neg h3, if_pos (by omega)]
        rw [if_pos (show fAt left (rd ps i) < j + 1 by omega)] at hih
        rw [h4] at hih ⊢
        exact hih
    · rw [if_neg (by omega)]
      have h4 : fAt left (rd ps i) ≠ j := by
        intro h5
        have := fAt_hit (left := left) (p := rd ps i) (by omega)
        simp only [h5] at this
        exact h2 this
      have h6 : (fAt left (rd ps i) < j + 1) = (fAt left (rd ps i) < j) := propext ⟨fun _ => by omega, fun _ => by omega⟩
      simp only [h6] at hih
      exact hih
theorem spec_l0 (bar : Int) (ps : List Int) (hps : ps.length ≤ 8) (ord : List Int) (hord : ord.length ≤ 8) (ho : ∀ x ∈ ord, 0 ≤ x ∧ x < (ps.length : Int)) (d : Nat) : ∀ (K c : Nat) (plan left : List Int), Fits bar ps left → ord.length - c = d → c ≤ ord.length → plan.length = ps.length → left.length ≤ c → 20 * d < K →
    spec_l18Fit.l0 K bar ps plan left ord (ord.length : Int) (c : Int) = some (fitL bar ps (ord.drop c) plan left) := by
  induction d with
  | zero =>
    intro K c plan left W hd hc hp hl hK
    obtain ⟨K, rfl⟩ := succ_of hK
    simp only [spec_l18Fit.l0]
    rw [if_neg (by omega), List.drop_of_length_le (by omega)]
    rfl
  | succ d ih =>
    intro K c plan left W hd hc hp hl hK
    obtain ⟨K, rfl⟩ := succ_of (show 0 < K by omega)
    have hlt : c < ord.length := by omega
    have hm := ho _ (List.getElem_mem hlt)
    simp only [spec_l18Fit.l0]
    rw [if_pos (by omega), if_pos (by omega), if_pos (by omega), rd_get ord c hlt]
    obtain ⟨K2, rfl⟩ : ∃ m, K = m + left.length + 1 := ⟨K - left.length - 1, by omega⟩
    have h1 := spec_l1 bar ps plan left W (by omega) ord[c] hm.1 hm.2 hp ord (ord.length : Int) (c : Int) K2 left.length 0 (by omega) (by omega)
    rw [if_neg (by omega), Int.ofNat_zero] at h1
    rw [h1, w1 (by omega), ih K2 (c + 1) _ _ (W.next _ hm.1 hm.2) (by omega) (by omega) (by rw [List.length_set]; exact hp) (by rw [nxt_len]; split <;> omega) (by omega), List.drop_eq_getElem_cons hlt]
    rfl
theorem fitL_len (bar : Int) (ps : List Int) : ∀ (o plan left : List Int), (fitL bar ps o plan left).length = plan.length
  | [], _, _ => rfl
  | i :: o, plan, left => by rw [fitL, fitL_len bar ps o, List.length_set]
theorem impl_fit (bar : Int) (ps : List Int) (hps : ps.length ≤ 8) (ord : List Int) (hord : ord.length ≤ 8) (ho : ∀ x ∈ ord, 0 ≤ x ∧ x < (ps.length : Int)) (W : Fits bar ps []) (K : Nat) (hK : 170 < K) : impl_firstFit.f0 K bar ps ord = some (fitL bar ps ord (List.replicate ps.length 0) []) := by
  unfold impl_firstFit.f0
  rw [if_pos (by omega), Int.toNat_natCast, if_pos (by omega)]
  have := impl_l0 bar ps hps ord hord ho ord.length K 0 (List.replicate ps.length 0) [] W (by omega) (by omega) (by simp) (by simp) (by omega)
  exact this
theorem spec_fit (bar : Int) (ps : List Int) (hps : ps.length ≤ 8) (ord : List Int) (hord : ord.length ≤ 8) (ho : ∀ x ∈ ord, 0 ≤ x ∧ x < (ps.length : Int)) (W : Fits bar ps []) (K : Nat) (hK : 170 < K) : spec_l18Fit.f K bar ps ord = some (fitL bar ps ord (List.replicate ps.length 0) []) := by
  unfold spec_l18Fit.f
  rw [if_pos (by omega), Int.toNat_natCast, if_pos (by omega)]
  have := spec_l0 bar ps hps ord hord ho ord.length K 0 (List.replicate ps.length 0) [] W (by omega) (by omega) (by simp) (by simp) (by omega)
  exact this
theorem orderOf_l (n : Nat) (hn : n ≤ 8) (d : Nat) : ∀ (k i : Nat), n - i = d → i ≤ n → d < k → impl_orderOf.l0 k (iota i) (n : Int) (i : Int) = some (iota n) := by
  induction d with
  | zero =>
    intro k i hd hi hk
    obtain ⟨k, rfl⟩ := succ_of hk
    have : i = n := by omega
    subst this
    simp only [impl_orderOf.l0, lt_f (Nat.le_refl i), if_false]
  | succ d ih =>
    intro k i hd hi hk
    obtain ⟨k, rfl⟩ := succ_of hk
    simp only [impl_orderOf.l0, lt_t (show i < n by omega), if_true, iota_len]
    rw [if_pos (by omega), iota_snoc, w1 (by omega)]
    exact ih k (i + 1) (by omega) (by omega) (by omega)
theorem orderOf_f (n : Nat) (hn : n ≤ 8) (k : Nat) (hk : 10 < k) : impl_orderOf.f k (n : Int) = some (iota n) := orderOf_l n hn n k 0 (by omega) (by omega) (by omega)
theorem iota_mem {n : Nat} {x : Int} (h : x ∈ iota n) : 0 ≤ x ∧ x < (n : Int) := by
  simp only [iota, List.mem_map, List.mem_range] at h
  obtain ⟨j, hj, rfl⟩ := h
  omega
theorem bars_fits {bar : Int} {ps : List Int} (h : impl_BarsOk.f bar ps = some true) : ps.length ≤ 8 ∧ Fits bar ps [] := by
  unfold impl_BarsOk.f at h
  have h := Option.some.inj h
  simp only [Bool.and_eq_true, decide_eq_true_eq, List.all_eq_true] at h
  refine ⟨h.2.1, h.1, fun i h0 h1 => ?_, by simp⟩
  obtain ⟨j, rfl⟩ := Int.eq_ofNat_of_zero_le h0
  have hj : j < ps.length := by omega
  rw [rd_get ps j hj]
  exact h.2.2 _ (List.getElem_mem hj)

def ht (l : List Int) (i : Int) : Int := rd l i
def posGo (l : List Int) (S : List Int) (x : Int) : Nat → Nat
  | 0 => 0
  | k + 1 => if ht l (rd S (k : Int)) < ht l x then posGo l S x k else k + 1
theorem posGo_le (l : List Int) (S : List Int) (x : Int) : ∀ k, posGo l S x k ≤ k
  | 0 => Nat.le_refl _
  | k + 1 => by
    unfold posGo
    split
    · have := posGo_le l S x k; omega
    · exact Nat.le_refl _
def insAt (S : List Int) (x : Int) (p : Nat) : List Int := S.take p ++ x :: S.drop p
theorem insAt_len (S : List Int) (x : Int) (p : Nat) : (insAt S x p).length = S.length + 1 := by
  simp [insAt, List.length_take, List.length_drop]
  omega
theorem insAt_mem {S : List Int} {x : Int} {p : Nat} {y : Int} (h : y ∈ insAt S x p) : y = x ∨ y ∈ S := by
  unfold insAt at h
  rw [List.mem_append, List.mem_cons] at h
  rcases h with h | h | h
  · exact .inr (List.mem_of_mem_take h)
  · exact .inl h
  · exact .inr (List.mem_of_mem_drop h)
def orderGo (l : List Int) : Nat → Nat → List Int → List Int
  | 0, _, S => S
  | d + 1, i, S => orderGo l d (i + 1) (insAt S (i : Int) (posGo l S (i : Int) S.length))
theorem orderGo_len (l : List Int) : ∀ (d i : Nat) (S : List Int), (orderGo l d i S).length = S.length + d
  | 0, _, _ => rfl
  | d + 1, i, S => by rw [orderGo, orderGo_len l d, insAt_len]; omega
structure Pieces (l : List Int) : Prop where
  len : l.length ≤ 8
  each : ∀ i : Int, 0 ≤ i → i < (l.length : Int) → 1 ≤ ht l i ∧ ht l i ≤ 1000
theorem order_l1 (bar : Int) (l : List Int) (W : Pieces l) (S : List Int) (hS : ∀ x ∈ S, 0 ≤ x ∧ x < (l.length : Int)) (hSl : S.length ≤ 12) (x : Int) (hx : 0 ≤ x ∧ x < (l.length : Int)) (n i : Int) (Q : List Int) : ∀ (j k : Nat), j ≤ S.length → j < k → (∀ k', k ≤ k' + j + 1 → spec_LongFirst.l0 k' bar l (insAt S x (posGo l S x j)) l n (wrap64 (i + 1)) = some Q) → spec_LongFirst.l1 k bar l S x (rd l x) (j : Int) l n i = some Q := by
  intro j
  induction j with
  | zero =>
    intro k hj hk hQ
    obtain ⟨k, rfl⟩ := succ_of hk
    have := hQ k (by omega)
    simp only [posGo, insAt, List.take_zero, List.nil_append, List.drop_zero] at this
    simp only [spec_LongFirst.l1]
    rw [if_neg (by simp)]
    simp only [Option.bind_some, Int.ofNat_zero, Int.le_refl, if_true, Int.toNat_zero, List.take_zero, List.nil_append, List.length_nil, List.drop_zero, List.length_cons]
    rw [if_pos (by omega), if_pos (by omega), if_pos (by omega), if_pos (by omega)]
    exact this
  | succ j ih =>
    intro k hj hk hQ
    obtain ⟨k, rfl⟩ := succ_of (show 0 < k by omega)
    have hw : wrap64 (((j + 1 : Nat) : Int) - 1) = (j : Int) := by rw [w64 (by omega) (by omega)]; omega
    have hmem : rd S (j : Int) ∈ S := by rw [rd_get S j (by omega)]; exact List.getElem_mem _
    have hr := hS _ hmem
    have he := W.each _ hr.1 hr.2
    have hxe := W.each _ hx.1 hx.2
    simp only [spec_LongFirst.l1, hw]
    rw [if_pos (by omega), if_pos (by omega), if_pos (by omega), if_pos hr.1, if_pos hr.2]
    unfold posGo at hQ
    by_cases c : ht l (rd S (j : Int)) < ht l x
    · rw [if_pos c] at hQ
      rw [if_pos (show rd l (rd S (j : Int)) < rd l x from c)]
      exact ih k (by omega) (by omega) (fun k' hk' => hQ k' (by omega))
    · rw [if_neg c] at hQ
      rw [if_neg (show ¬ rd l (rd S (j : Int)) < rd l x from c)]
      have h2 := hQ k (by omega)
      have ht : (S.take (j + 1)).length = j + 1 := by rw [List.length_take]; omega
      simp only [Option.bind_some, List.nil_append, List.length_nil, Int.toNat_natCast]
      rw [if_pos (by omega), if_pos (by omega), if_pos (by omega), if_pos (by omega), if_pos (by simp; omega)]
      unfold insAt at h2
      rw [List.append_assoc]
      exact h2
theorem order_l0 (bar : Int) (l : List Int) (W : Pieces l) (Q : List Int) (d : Nat) : ∀ (k i : Nat) (S : List Int), l.length - i = d → i ≤ l.length → S.length = i → (∀ x ∈ S, 0 ≤ x ∧ x < (l.length : Int)) → 20 * d + 300 < k → (∀ k', 200 < k' → ((spec_l18Fit.f k' bar l (orderGo l d i S)).bind fun t154 => ((spec_l18Anew.f k' t154).bind fun t157 => (some t157))) = some Q) → spec_LongFirst.l0 k bar l S l (l.length : Int) (i : Int) = some Q := by
  have hl := W.len
  induction d with
  | zero =>
    intro k i S hd hi hSl hS hk hQ
    obtain ⟨k, rfl⟩ := succ_of (show 0 < k by omega)
    simp only [spec_LongFirst.l0, lt_f (show l.length ≤ i by omega), if_false]
    exact hQ k (by omega)
  | succ d ih =>
    intro k i S hd hi hSl hS hk hQ
    obtain ⟨k, rfl⟩ := succ_of (show 0 < k by omega)
    have hlt : i < l.length := by omega
    simp only [spec_LongFirst.l0, lt_t hlt, nn_t, if_true]
    refine order_l1 bar l W S hS (by omega) (i : Int) (by omega) _ (i : Int) _ S.length k (Nat.le_refl _) (by omega) (fun k' hk' => ?_)
    rw [w1 (show i ≤ 140737488355328 by omega)]
    exact ih k' (i + 1) _ (by omega) (by omega) (by rw [insAt_len]; omega) (fun y hy => by
      rcases insAt_mem hy with h | h
      · rw [h]; omega
      · exact hS y h) (by omega) hQ
theorem swap_step (S R : List Int) (x : Int) (j : Nat) (hj : j < S.length) : ((S.take (j + 1) ++ x :: (S.drop (j + 1) ++ R)).set (j + 1) S[j]).set j x = S.take j ++ x :: (S.drop j ++ R) := by
  have h1 : S.take (j + 1) = S.take j ++ [S[j]] := (List.take_append_getElem hj).symm
  have hl : (S.take j).length = j := by rw [List.length_take]; omega
  rw [h1, List.drop_eq_getElem_cons hj]
  generalize S[j] = s
  generalize S.take j = T at hl
  generalize S.drop (j + 1) = D
  subst hl
  simp [List.set_append]
theorem at_pos (S R : List Int) (x : Int) (j : Nat) (hj : j ≤ S.length) : rd (S.take j ++ x :: (S.drop j ++ R)) (j : Int) = x := by
  have hl : (S.take j).length = j := by rw [List.length_take]; omega
  rw [rd_get _ _ (by rw [List.length_append, hl, List.length_cons]; omega), List.getElem_append_right (by omega)]
  simp [hl]
theorem before_pos (S R : List Int) (x : Int) (j : Nat) (hj : j + 1 ≤ S.length) : rd (S.take (j + 1) ++ x :: (S.drop (j + 1) ++ R)) (j : Int) = rd S (j : Int) := by
  have hl : (S.take (j + 1)).length = j + 1 := by rw [List.length_take]; omega
  rw [rd_get _ _ (by rw [List.length_append, hl]; omega), rd_get S j (by omega), List.getElem_append_left (by omega)]
  simp
theorem sort_l1 (l : List Int) (W : Pieces l) (S R : List Int) (hS : ∀ x ∈ S, 0 ≤ x ∧ x < (l.length : Int)) (hSl : S.length + R.length ≤ 20) (x : Int) (hx : 0 ≤ x ∧ x < (l.length : Int)) (n i : Int) (Q : List Int) : ∀ (j k : Nat), j ≤ S.length → j < k → (∀ k', k ≤ k' + j + 1 → slices_insertionSortCmpFunc_int.l0 (longFirst.cf l) k' (S.take (posGo l S x j) ++ x :: (S.drop (posGo l S x j) ++ R)) 0 n (wrap64 (i + 1)) = some Q) → slices_insertionSortCmpFunc_int.l1 (longFirst.cf l) k (S.take j ++ x :: (S.drop j ++ R)) 0 n i (j : Int) = some Q := by
  intro j
  induction j with
  | zero =>
    intro k hj hk hQ
    obtain ⟨k, rfl⟩ := succ_of hk
    simp only [slices_insertionSortCmpFunc_int.l1]
    rw [if_neg (by simp)]
    exact hQ k (by omega)
  | succ j ih =>
    intro k hj hk hQ
    obtain ⟨k, rfl⟩ := succ_of (show 0 < k by omega)
    have hw : wrap64 (((j + 1 : Nat) : Int) - 1) = (j : Int) := by rw [w64 (by omega) (by omega)]; omega
    have hmem : rd S (j : Int) ∈ S := by rw [rd_get S j (by omega)]; exact List.getElem_mem _
    have hr := hS _ hmem
    have he := W.each _ hr.1 hr.2
    have hxe := W.each _ hx.1 hx.2
    have hlen : (S.take (j + 1) ++ x :: (S.drop (j + 1) ++ R)).length = S.length + 1 + R.length := by
      simp [List.length_take, List.length_drop]
      omega
    have hcf : longFirst.cf l x (rd S (j : Int)) = some (ht l (rd S (j : Int)) - ht l x) := by
      unfold longFirst.cf
      rw [if_pos ⟨hx, hr⟩]
      congr 1
      exact w64 (by unfold ht at *; omega) (by unfold ht at *; omega)
    simp only [slices_insertionSortCmpFunc_int.l1, hw, hlen, at_pos S R x (j + 1) hj, before_pos S R x j hj, hcf, Option.bind_some, Int.toNat_natCast]
    rw [if_pos (by omega), if_pos (by omega), if_pos (by omega), if_pos (by omega), if_pos (by omega)]
    unfold posGo at hQ
    by_cases c : ht l (rd S (j : Int)) < ht l x
    · rw [if_pos c] at hQ
      rw [if_pos (by omega), rd_get S j (by omega), swap_step S R x j (by omega)]
      exact ih k (by omega) (by omega) (fun k' hk' => hQ k' (by omega))
    · rw [if_neg c] at hQ
      rw [if_neg (by omega)]
      exact hQ k (by omega)
theorem sort_l0 (l : List Int) (W : Pieces l) (d : Nat) : ∀ (k i : Nat) (S : List Int), l.length - i = d → i ≤ l.length → S.length = i → (∀ x ∈ S, 0 ≤ x ∧ x < (l.length : Int)) → 20 * d + 20 < k → slices_insertionSortCmpFunc_int.l0 (longFirst.cf l) k (S ++ (iota l.length).drop i) 0 (l.length : Int) (i : Int) = some (orderGo l d i S) := by
  have hl := W.len
  induction d with
  | zero =>
    intro k i S hd hi hSl hS hk
    obtain ⟨k, rfl⟩ := succ_of (show 0 < k by omega)
    simp only [slices_insertionSortCmpFunc_int.l0, lt_f (show l.length ≤ i by omega), if_false, orderGo]
    rw [List.drop_of_length_le (by rw [iota_len]; omega), List.append_nil]
  | succ d ih =>
    intro k i S hd hi hSl hS hk
    obtain ⟨k, rfl⟩ := succ_of (show 0 < k by omega)
    have hlt : i < l.length := by omega
    simp only [slices_insertionSortCmpFunc_int.l0, lt_t hlt, if_true, orderGo]
    rw [iota_drop l.length i hlt]
    have hR : ((iota l.length).drop (i + 1)).length = l.length - (i + 1) := by rw [List.length_drop, iota_len]
    have := sort_l1 l W S ((iota l.length).drop (i + 1)) hS (by omega) (i : Int) (by omega) (l.length : Int) (i : Int) (orderGo l d (i + 1) (insAt S (i : Int) (posGo l S (i : Int) S.length))) S.length k (Nat.le_refl _) (by omega) (fun k' hk' => by
      rw [w1 (show i ≤ 140737488355328 by omega)]
      have h2 := ih k' (i + 1) (insAt S (i : Int) (posGo l S (i : Int) S.length)) (by omega) (by omega) (by rw [insAt_len]; omega) (fun y hy => by
        rcases insAt_mem hy with h | h
        · rw [h]; omega
        · exact hS y h) (by omega)
      rw [insAt, List.append_assoc, List.cons_append] at h2
      exact h2)
    rw [List.take_length, List.drop_length, List.nil_append] at this
    subst hSl
    exact this
theorem sort_eq (l : List Int) (W : Pieces l) (k : Nat) (hk : 300 < k) : slices_insertionSortCmpFunc_int.f (longFirst.cf l) k (iota l.length) 0 ((iota l.length).length : Int) = some (orderGo l l.length 0 []) := by
  have hl := W.len
  rw [iota_len]
  unfold slices_insertionSortCmpFunc_int.f
  have hw : wrap64 (0 + 1) = ((1 : Nat) : Int) := w64 (by omega) (by omega)
  rw [hw]
  by_cases hn : l.length = 0
  · obtain ⟨k, rfl⟩ := succ_of (show 0 < k by omega)
    rw [hn]
    simp [slices_insertionSortCmpFunc_int.l0, orderGo, iota]
  · have h2 := sort_l0 l W (l.length - 1) k 1 [0] (by omega) (by omega) rfl (by simp; omega) (by omega)
    have e1 : [0] ++ (iota l.length).drop 1 = iota l.length := by
      have := iota_drop l.length 0 (by omega)
      rw [List.drop_zero] at this
      rw [this]
      rfl
    rw [e1] at h2
    rw [h2]
    obtain ⟨m, hm⟩ : ∃ m, l.length = m + 1 := ⟨l.length - 1, by omega⟩
    rw [hm]
    rfl
theorem orderGo_mem (l : List Int) : ∀ (d i : Nat) (S : List Int) (y : Int), y ∈ orderGo l d i S → y ∈ S ∨ ((i : Int) ≤ y ∧ y < (i + d : Nat))
  | 0, _, _, _, h => .inl h
  | d + 1, i, S, y, h => by
    rcases orderGo_mem l d (i + 1) _ y h with h | h
    · rcases insAt_mem h with h | h
      · subst h
        exact .inr (by omega)
      · exact .inl h
    · exact .inr (by omega)

def ren : List Int → List Int → List Int
  | _, [] => []
  | nm, v :: t => (((grow nm v).idxOf v : Nat) : Int) :: ren (grow nm v) t
theorem grow_len (nm : List Int) (v : Int) : (grow nm v).length ≤ nm.length + 1 := by
  unfold grow
  by_cases e : v ∈ nm
  · rw [if_pos e]; omega
  · rw [if_neg e]; simp
theorem grow_idx {nm : List Int} {v : Int} : (grow nm v).idxOf v = nm.idxOf v := by
  unfold grow
  by_cases e : v ∈ nm
  · rw [if_pos e]
  · rw [if_neg e, List.idxOf_append, if_neg e, List.idxOf_eq_length e]
    simp
theorem idx_nodup {nm : List Int} (h : nm.Nodup) {j : Nat} (hj : j < nm.length) : nm.idxOf nm[j] = j := by
  have h1 := List.idxOf_lt_length_of_mem (List.getElem_mem hj)
  have h2 := List.getElem_idxOf h1
  exact (List.getElem_inj h).mp h2
theorem renum_ren (x : List Int) (hx : x.length ≤ 20) (hb : ∀ v ∈ x, 0 ≤ v ∧ v ≤ 100) (d : Nat) : ∀ (k i : Nat) (y nm : List Int), y.length = x.length → y.drop i = x.drop i → x.length - i = d → i ≤ x.length → nm.length ≤ i → d < k → renum k y nm (i : Int) = some (y.take i ++ ren nm (x.drop i)) := by
  induction d with
  | zero =>
    intro k i y nm hy he hd hi hm hk
    obtain ⟨k, rfl⟩ := succ_of hk
    simp only [renum]
    rw [if_neg (by omega), List.drop_of_length_le (show x.length ≤ i by omega), List.take_of_length_le (by omega)]
    simp [ren]
  | succ d ih =>
    intro k i y nm hy he hd hi hm hk
    obtain ⟨k, rfl⟩ := succ_of hk
    have hlt : i < x.length := by omega
    have hlt2 : i < y.length := by omega
    have e1 : y[i] = x[i] := by
      have h7 : y[i]? = x[i]? := by
        have := congrArg List.head? he
        simpa using this
      rw [List.getElem?_eq_getElem hlt, List.getElem?_eq_getElem hlt2] at h7
      exact Option.some.inj h7
    have hv := hb _ (List.getElem_mem hlt)
    simp only [renum]
    rw [if_pos (by omega), rd_get y i hlt2, e1, if_pos ⟨⟨by omega, by omega⟩, by omega, by omega⟩, w1 (by omega), Int.toNat_natCast]
    have hg : (grow nm x[i]).length ≤ i + 1 := Nat.le_trans (grow_len nm _) (by omega)
    have hd2 : (y.set i (((grow nm x[i]).idxOf x[i] : Nat) : Int)).drop (i + 1) = x.drop (i + 1) := by
      rw [List.drop_set_of_lt (by omega)]
      have := congrArg (List.drop 1) he
      simpa [List.drop_drop] using this
    rw [ih k (i + 1) _ _ (by rw [List.length_set]; exact hy) hd2 (by omega) (by omega) hg (by omega)]
    rw [List.drop_eq_getElem_cons hlt, ren, List.take_add_one, List.take_set_of_le (Nat.le_refl _), List.getElem?_set_self hlt2]
    simp
theorem anew_l1 (nm out plan : List Int) (hnd : nm.Nodup) (hn : nm.length ≤ 20) (ho : out.length ≤ 20) (v n i : Int) (K : Nat) (d : Nat) : ∀ j : Nat, j ≤ nm.length → nm.length - j = d →
    spec_l18Anew.l1 (K + d + 1) nm out v ((if nm.idxOf v < j then nm.idxOf v else nm.length : Nat) : Int) plan n i (nm.length : Int) (j : Int) = spec_l18Anew.l0 K (grow nm v) (out ++ [(((grow nm v).idxOf v : Nat) : Int)]) plan n (wrap64 (i + 1)) := by
  have hle : nm.idxOf v ≤ nm.length := List.idxOf_le_length
  induction d with
  | zero =>
    intro j hj hd
    have ec : (if nm.idxOf v < j then nm.idxOf v else nm.length) = nm.idxOf v := by split <;> omega
    rw [ec, grow_idx]
    simp only [Nat.add_zero, spec_l18Anew.l1]
    rw [if_neg (by omega)]
    by_cases e : v ∈ nm
    · have := List.idxOf_lt_length_of_mem e
      rw [if_neg (by omega), if_pos (by omega), grow, if_pos e]
    · have := List.idxOf_eq_length e
      rw [if_pos (by omega), if_pos (by omega), if_pos (by omega), grow, if_neg e]
  | succ d ih =>
    intro j hj hd
    have e : j < nm.length := by omega
    have hih := ih (j + 1) (by omega) (by omega)
    rw [show K + (d + 1) + 1 = (K + d + 1) + 1 by omega, spec_l18Anew.l1]
    rw [if_pos (by omega), if_pos (by omega), if_pos (by omega), rd_get nm j e, w1 (by omega)]
    by_cases h2 : nm[j] = v
    · have h4 : nm.idxOf v = j := by rw [← h2]; exact idx_nodup hnd e
      rw [if_pos h2]
      rw [if_pos (show nm.idxOf v < j + 1 by omega), h4] at hih
      exact hih
    · rw [if_neg h2]
      have h4 : nm.idxOf v ≠ j := by
        intro h5
        have h6 := List.getElem_idxOf (show nm.idxOf v < nm.length by omega)
        simp only [h5] at h6
        exact h2 h6
      have h6 : (nm.idxOf v < j + 1) = (nm.idxOf v < j) := propext ⟨fun _ => by omega, fun _ => by omega⟩
      simp only [h6] at hih
      exact hih
theorem anew_l0 (plan : List Int) (hp : plan.length ≤ 8) (d : Nat) : ∀ (K i : Nat) (nm out : List Int), nm.Nodup → nm.length ≤ i → out.length = i → plan.length - i = d → i ≤ plan.length → 20 * d < K → spec_l18Anew.l0 K nm out plan (plan.length : Int) (i : Int) = some (out ++ ren nm (plan.drop i)) := by
  induction d with
  | zero =>
    intro K i nm out hnd hn ho hd hi hK
    obtain ⟨K, rfl⟩ := succ_of hK
    simp only [spec_l18Anew.l0]
    rw [if_neg (by omega), List.drop_of_length_le (by omega)]
    simp [ren]
  | succ d ih =>
    intro K i nm out hnd hn ho hd hi hK
    obtain ⟨K, rfl⟩ := succ_of (show 0 < K by omega)
    have hlt : i < plan.length := by omega
    simp only [spec_l18Anew.l0]
    rw [if_pos (by omega), if_pos (by omega), if_pos (by omega), rd_get plan i hlt]
    obtain ⟨K2, rfl⟩ : ∃ m, K = m + nm.length + 1 := ⟨K - nm.length - 1, by omega⟩
    have h1 := anew_l1 nm out plan hnd (by omega) (by omega) plan[i] (plan.length : Int) (i : Int) K2 nm.length 0 (by omega) (by omega)
    rw [if_neg (by omega), Int.ofNat_zero] at h1
    have hg : (grow nm plan[i]).length ≤ i + 1 := Nat.le_trans (grow_len nm _) (by omega)
    rw [h1, w1 (by omega), ih K2 (i + 1) _ _ (grow_nodup hnd _) hg (by simp; omega) (by omega) (by omega) (by omega), List.drop_eq_getElem_cons hlt, ren]
    simp

theorem more_of {α : Type} {f : Nat → Option α} (h : ∀ k, LeO (f k) (f (k + 1))) {k : Nat} {r : α} (hr : f k = some r) (K : Nat) (hK : k ≤ K) : f K = some r := by
  obtain ⟨m, rfl⟩ := Nat.exists_eq_add_of_le hK
  clear hK
  induction m with
  | zero => exact hr
  | succ m ih => exact h (k + m) _ ih

def marked (a : Int) (n : Nat) : List Int := (List.range n).map fun j : Nat => a + (j : Int)
theorem marked_length (a : Int) (n : Nat) : (marked a n).length = n := by simp [marked]
theorem marked_get (a : Int) (n i : Nat) (h : i < n) : rd (marked a n) (i : Int) = a + (i : Int) := by
  rw [rd_get _ _ (by rw [marked_length]; exact h)]
  simp [marked]
theorem mark_l (n : Nat) (a : Int) (h0 : 0 ≤ a) (h1 : a + (n : Int) ≤ 4611686018427387904) (hn : n ≤ 140737488355328) (d : Nat) : ∀ (k i : Nat) (l : List Int), n - i = d → i ≤ n → l.length = n → l.take i = marked a i → d < k → laws_markIntS.l0 k l (a + (i : Int)) (i : Int) = some (a + (n : Int), marked a n) := by
  induction d with
  | zero =>
    intro k i l hd hi hl ht hk
    obtain ⟨k, rfl⟩ := succ_of hk
    have : i = n := by omega
    subst this
    subst hl
    simp only [laws_markIntS.l0, lt_f (Nat.le_refl l.length), if_false]
    rw [List.take_length] at ht
    rw [← ht]
  | succ d ih =>
    intro k i l hd hi hl ht hk
    obtain ⟨k, rfl⟩ := succ_of hk
    have hlt : i < l.length := by omega
    simp only [laws_markIntS.l0, lt_t hlt, nn_t, if_true, w1 (show i ≤ 140737488355328 by omega)]
    rw [w64 (by omega) (by omega), show a + (i : Int) + 1 = a + ((i + 1 : Nat) : Int) by omega]
    refine ih k (i + 1) _ (by omega) (by omega) (by simp [hl]) ?_ (by omega)
    rw [Int.toNat_natCast, List.take_add_one, List.take_set_of_le (Nat.le_refl _), ht]
    simp [hlt, marked, List.range_succ]
theorem mark_f (l : List Int) (a : Int) (h0 : 0 ≤ a) (h1 : a + (l.length : Int) ≤ 4611686018427387904) (hn : l.length ≤ 140737488355328) (k : Nat) (hk : l.length < k) : laws_markIntS.f k l a = some (a + (l.length : Int), marked a l.length) := by
  have := mark_l l.length a h0 h1 hn l.length k 0 l (by omega) (by omega) rfl (by simp [marked]) hk
  rw [Int.ofNat_zero, Int.add_zero] at this
  exact this
theorem held_l (n : Nat) (a : Int) (h0 : 0 ≤ a) (h1 : a + (n : Int) ≤ 4611686018427387904) (hn : n ≤ 140737488355328) (d : Nat) : ∀ (k i : Nat), n - i = d → i ≤ n → d < k → laws_heldIntS.l0 k (marked a n) (a + (i : Int)) (i : Int) = some (a + (n : Int)) := by
  induction d with
  | zero =>
    intro k i hd hi hk
    obtain ⟨k, rfl⟩ := succ_of hk
    have : i = n := by omega
    subst this
    simp only [laws_heldIntS.l0, marked_length, lt_f (Nat.le_refl i), if_false]
  | succ d ih =>
    intro k i hd hi hk
    obtain ⟨k, rfl⟩ := succ_of hk
    have hlt : i < n := by omega
    simp only [laws_heldIntS.l0, marked_length, lt_t hlt, nn_t, if_true, w1 (show i ≤ 140737488355328 by omega), marked_get a n i hlt]
    rw [w64 (by omega) (by omega), show a + (i : Int) + 1 = a + ((i + 1 : Nat) : Int) by omega]
    exact ih k (i + 1) (by omega) (by omega) (by omega)
theorem held_f (n : Nat) (a : Int) (h0 : 0 ≤ a) (h1 : a + (n : Int) ≤ 4611686018427387904) (hn : n ≤ 140737488355328) (k : Nat) (hk : n < k) : laws_heldIntS.f k (marked a n) a = some (a + (n : Int)) := by
  have := held_l n a h0 h1 hn n k 0 (by omega) (by omega) hk
  rw [Int.ofNat_zero, Int.add_zero] at this
  exact this

theorem fitL_bound (bar : Int) (ps : List Int) : ∀ (o plan left : List Int), left.length + o.length ≤ 8 → (∀ x ∈ plan, 0 ≤ x ∧ x ≤ 100) → ∀ x ∈ fitL bar ps o plan left, 0 ≤ x ∧ x ≤ 100
  | [], _, _, _, h => h
  | i :: o, plan, left, hl, h => by
    rw [fitL]
    refine fitL_bound bar ps o _ _ ?_ ?_
    · rw [nxt_len]
      simp only [List.length_cons] at hl
      split <;> omega
    · intro x hx
      rcases List.mem_or_eq_of_mem_set hx with hx | hx
      · exact h x hx
      · have := fAt_le left (rd ps i)
        simp only [List.length_cons] at hl
        omega
theorem pieces_fits {bar : Int} {ps : List Int} (hn : ps.length ≤ 8) (W : Fits bar ps []) : Pieces ps := ⟨hn, fun i h0 h1 => by
  have := W.each i h0 h1
  have := W.bar_ok
  unfold ht
  omega⟩
theorem longFirst_eq (bar : Int) (ps : List Int) (k : Nat) (hk : 600 < k) : ∃ r, spec_LongFirst.f k bar ps = some r ∧ impl_LongFirst.f k bar ps = some r ∧ r.length ≤ 8 := by
  unfold spec_LongFirst.f impl_LongFirst.f
  rw [bars_f bar ps k (by omega)]
  obtain ⟨b, hb⟩ : ∃ b, impl_BarsOk.f bar ps = some b := ⟨_, rfl⟩
  rw [hb]
  simp only [Option.bind_some]
  cases b with
  | false => exact ⟨[], rfl, rfl, by simp⟩
  | true =>
    obtain ⟨hn, W⟩ := bars_fits hb
    have P := pieces_fits hn W
    have ho : ∀ x ∈ orderGo ps ps.length 0 [], 0 ≤ x ∧ x < (ps.length : Int) := fun x hx => by
      rcases orderGo_mem ps ps.length 0 [] x hx with h | h
      · simp at h
      · omega
    have hol : (orderGo ps ps.length 0 []).length = ps.length := by rw [orderGo_len]; simp
    have hpl : (fitL bar ps (orderGo ps ps.length 0 []) (List.replicate ps.length 0) []).length = ps.length := by rw [fitL_len]; simp
    have hbd := fitL_bound bar ps (orderGo ps ps.length 0 []) (List.replicate ps.length 0) [] (by rw [hol]; simpa using hn) (fun x hx => by
      have := List.eq_of_mem_replicate hx
      omega)
    have hf := fun k' (h : 200 < k') => spec_fit bar ps hn (orderGo ps ps.length 0 []) (by omega) ho W k' (by omega)
    have hg := impl_fit bar ps hn (orderGo ps ps.length 0 []) (by omega) ho W k (by omega)
    generalize fitL bar ps (orderGo ps ps.length 0 []) (List.replicate ps.length 0) [] = p at hpl hbd hf hg
    have h1 := fun k' (h : 200 < k') => anew_l0 p (by omega) p.length k' 0 [] [] List.nodup_nil (by simp) rfl (by omega) (by omega) (by omega)
    have h2 := renum_ren p (by omega) hbd p.length k 0 p [] rfl rfl (by omega) (by omega) (by simp) (by omega)
    rw [List.take_zero, List.drop_zero, List.nil_append, Int.ofNat_zero] at h2
    have hrl : ∀ (t nm : List Int), (ren nm t).length = t.length := by
      intro t
      induction t with
      | nil => intro nm; rfl
      | cons v t ih => intro nm; simp [ren, ih]
    refine ⟨ren [] p, ?_, ?_, by rw [hrl]; omega⟩
    · rw [if_pos rfl]
      have := order_l0 bar ps P (ren [] p) ps.length k 0 [] (by omega) (by omega) rfl (by simp) (by omega) (fun k' hk' => by
        rw [hf k' hk', Option.bind_some]
        have h3 := h1 k' hk'
        rw [List.drop_zero, List.nil_append, Int.ofNat_zero] at h3
        unfold spec_l18Anew.f
        rw [h3, Option.bind_some])
      exact this
    · rw [if_pos rfl, orderOf_f ps.length hn k (by omega), Option.bind_some, if_pos (by rw [iota_len]; omega), sort_eq ps P k (by omega), Option.bind_some]
      unfold impl_firstFit.f
      rw [hg, Option.bind_some, h2]
theorem FnExactLongFirst : laws_FnExactLongFirst.Pure := by
  intro bar l _ _ _ _
  refine ⟨2097160, ?_⟩
  unfold laws_FnExactLongFirst.f
  by_cases hbig : (l.length : Int) > 1048576
  · rw [if_pos hbig]
  rw [if_neg hbig]
  obtain ⟨r, h1, h2, hr⟩ := longFirst_eq bar l 2097160 (by omega)
  obtain ⟨r', h1', h2', _⟩ := longFirst_eq bar l 2097159 (by omega)
  have e : r' = r := by
    have := more_of (f := fun k => spec_LongFirst.f k bar l) (fun k => spec_LongFirst.mono _ _ k) h1' 2097160 (by omega)
    exact Option.some.inj (this.symm.trans h1)
  subst e
  rw [toIntS l (by omega) _ (by omega)]
  simp only [Option.bind_some, h1, h2, eqIntS r' r' (by omega) _ (show r'.length < 2097160 by omega), decide_true, if_true, eqIntS l l (by omega) _ (show l.length < 2097160 by omega), mark_f l 1 (by omega) (by omega) (by omega) 2097160 (by omega)]
  rw [if_neg (by omega)]
  simp only [laws_FnExactLongFirst.j0, Bool.not_true, Bool.false_eq_true, if_false, mark_f r' 1 (by omega) (by omega) (by omega) 2097159 (by omega), held_f r'.length 1 (by omega) (by omega) (by omega) 2097159 (by omega), Option.bind_some, if_true, toIntS l (by omega) 2097159 (by omega), h2', eqIntS r' r' (by omega) 2097159 (by omega), decide_true]
  rw [if_neg (by omega)]
  rw [if_neg (by omega)]

end Go.Proofs.Ytmokeeakgacadaa.Pure
