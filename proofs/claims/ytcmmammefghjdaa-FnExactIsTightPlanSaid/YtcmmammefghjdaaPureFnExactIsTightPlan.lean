/- IsTightPlan: both texts look, for each piece, whether a bar with a lesser number has room for it. -/
import Derived.Test.YtcmmammefghjdaaXFnExactIsTightPlanx5
namespace Go.Proofs.Ytcmmammefghjdaa.Pure
open Go.RowKit Go.Proofs.Ytcmmammefghjdaa.XFnExactIsTightPlan Go.Proofs.YtcmmammefghjdaaW.PrintWords Go.Proofs.YtcmmammefghjdaaW.PrintLast
set_option linter.unusedVariables false
set_option linter.unusedSimpArgs false
theorem wf64 {x : Int} (h : (Lit.int .i64 x).wf = true) : -9223372036854775808 ≤ x ∧ x ≤ 9223372036854775807 := by
  simp only [Lit.wf, IntKind.min, IntKind.max, IntKind.signed, IntKind.bits, Bool.and_eq_true, decide_eq_true_eq, if_true] at h
  omega
theorem w64 {x : Int} (h0 : -9223372036854775808 ≤ x) (h1 : x ≤ 9223372036854775807) : wrap64 x = x := by
  unfold wrap64
  omega
theorem succ_of {d k : Nat} (h : d < k) : ∃ m, k = m + 1 := ⟨k - 1, by omega⟩
theorem rd_nat (l : List Int) (i : Nat) : rd l (i : Int) = l.getD i 0 := by simp [rd]
theorem rd_get (l : List Int) (i : Nat) (h : i < l.length) : rd l (i : Int) = l[i] := by simp [rd, List.getD_eq_getElem?_getD, h]
theorem w1 {i : Nat} (h : i ≤ 140737488355328) : wrap64 ((i : Int) + 1) = ((i + 1 : Nat) : Int) := by
  unfold wrap64
  omega
theorem lt_t {i n : Nat} (h : i < n) : ((i : Int) < (n : Int)) = True := eq_true (by omega)
theorem lt_f {i n : Nat} (h : n ≤ i) : ((i : Int) < (n : Int)) = False := eq_false (by omega)
theorem nn_t (i : Nat) : (0 ≤ (i : Int)) = True := eq_true (by omega)
theorem w64n (n : Nat) (h : n ≤ 9223372036854775807) : wrap64 (n : Int) = (n : Int) := w64 (by omega) (by omega)
theorem w64sub (a b c : Nat) (ha : a ≤ 9223372036854775807) (h : a = b + c) : wrap64 ((a : Int) - (b : Int)) = (c : Int) := by
  rw [w64 (by omega) (by omega)]
  omega

theorem toIntS_l (l : List Int) (hl : l.length ≤ 35184372088832) (d : Nat) : ∀ (k : Nat) (ys : List Int) (i : Nat), l.length - i = d → i ≤ l.length → ys.length = l.length → ys.take i = l.take i → d < k → laws_toIntS.l0 k l ys (i : Int) = some l := by
  induction d with
  | zero =>
    intro k ys i hd hi hy ht hk
    obtain ⟨k, rfl⟩ := succ_of hk
    simp only [laws_toIntS.l0]
    rw [if_neg (by omega)]
    have : i = l.length := by omega
    subst this
    rw [List.take_length, ← hy, List.take_length] at ht
    rw [ht]
  | succ d ih =>
    intro k ys i hd hi hy ht hk
    obtain ⟨k, rfl⟩ := succ_of hk
    simp only [laws_toIntS.l0]
    rw [if_pos (by omega), if_pos (by omega), if_pos (by omega), w1 (by omega), rd_get l i (by omega)]
    refine ih k _ (i + 1) (by omega) (by omega) (by simp [hy]) ?_ (by omega)
    rw [Int.toNat_natCast, List.take_add_one, List.take_add_one, List.take_set_of_le (Nat.le_refl _), ht]
    simp [hy, show i < l.length by omega]
theorem toIntS (l : List Int) (hl : l.length ≤ 35184372088832) (k : Nat) (hk : l.length < k) : laws_toIntS.f k l = some l := by
  unfold laws_toIntS.f
  rw [if_pos (by omega), if_pos (by omega)]
  exact toIntS_l l hl l.length k _ 0 (by omega) (by omega) (by simp) rfl hk
theorem eqIntS_l (l m : List Int) (hl : l.length ≤ 35184372088832) (he : l.length = m.length) (d : Nat) : ∀ (k : Nat) (i : Nat), l.length - i = d → i ≤ l.length → d < k → laws_eqIntS.l0 k l m (i : Int) = some (decide (l.drop i = m.drop i)) := by
  induction d with
  | zero =>
    intro k i hd hi hk
    obtain ⟨k, rfl⟩ := succ_of hk
    simp only [laws_eqIntS.l0]
    rw [if_neg (by omega), List.drop_of_length_le (by omega), List.drop_of_length_le (by omega)]
    simp
  | succ d ih =>
    intro k i hd hi hk
    obtain ⟨k, rfl⟩ := succ_of hk
    simp only [laws_eqIntS.l0]
    rw [if_pos (by omega), if_pos (by omega), if_pos (by omega), w1 (by omega), rd_get l i (by omega), rd_get m i (by omega), ih k (i + 1) (by omega) (by omega) (by omega)]
    have h1 := List.drop_eq_getElem_cons (show i < l.length by omega)
    have h2 := List.drop_eq_getElem_cons (show i < m.length by omega)
    by_cases e : l[i]'(by omega) = m[i]'(by omega)
    · rw [if_pos e, h1, h2]
      simp only [List.cons.injEq, e, true_and]
    · rw [if_neg e, h1, h2]
      simp only [List.cons.injEq, e, false_and, decide_false]
theorem eqIntS (l m : List Int) (hl : l.length ≤ 35184372088832) (k : Nat) (hk : l.length < k) : laws_eqIntS.f k l m = some (decide (l = m)) := by
  unfold laws_eqIntS.f
  by_cases e : l.length = m.length
  · rw [if_pos (by omega)]
    have := eqIntS_l l m hl e l.length k 0 (by omega) (by omega) hk
    simpa using this
  · rw [if_neg (by omega)]
    have : l ≠ m := fun h => e (by rw [h])
    simp [this]

theorem within_f (a b c : Int) : impl_within.f a b c = some (decide (b ≤ a ∧ a ≤ c)) := by
  unfold impl_within.f
  by_cases h : a ≥ b
  · rw [if_pos h]; simp [show b ≤ a from h]
  · rw [if_neg h]; simp [show ¬ b ≤ a from h]
theorem l01In_f (a b c : Int) : spec_l01In.f a b c = some (decide (b ≤ a ∧ a ≤ c)) := by
  unfold spec_l01In.f
  by_cases h : a ≥ b
  · rw [if_pos h]; simp [show b ≤ a from h]
  · rw [if_neg h]; simp [show ¬ b ≤ a from h]

theorem bars_l (bar : Int) (l : List Int) (hl : l.length ≤ 8) (d : Nat) : ∀ (k i : Nat), l.length - i = d → i ≤ l.length → d < k → spec_BarsOk.l0 k bar l (l.length : Int) (i : Int) = some ((l.drop i).all fun p => decide (1 ≤ p ∧ p ≤ bar)) := by
  induction d with
  | zero =>
    intro k i hd hi hk
    obtain ⟨k, rfl⟩ := succ_of hk
    simp only [spec_BarsOk.l0, lt_f (show l.length ≤ i by omega), if_false, List.drop_of_length_le (show l.length ≤ i by omega), List.all_nil]
  | succ d ih =>
    intro k i hd hi hk
    obtain ⟨k, rfl⟩ := succ_of hk
    have hlt : i < l.length := by omega
    have hih := ih k (i + 1) (by omega) (by omega) (by omega)
    rw [List.drop_eq_getElem_cons hlt, List.all_cons]
    simp only [spec_BarsOk.l0, lt_t hlt, nn_t, if_true, rd_get l i hlt, l01In_f, Option.bind_some, w1 (show i ≤ 140737488355328 by omega), hih]
    by_cases g : 1 ≤ l[i] ∧ l[i] ≤ bar
    · simp [g]
    · simp [g]
theorem bars_f (bar : Int) (l : List Int) (k : Nat) (hk : 9 < k) : spec_BarsOk.f k bar l = impl_BarsOk.f bar l := by
  unfold spec_BarsOk.f impl_BarsOk.f
  obtain ⟨k, rfl⟩ := succ_of hk
  simp only [l01In_f, Option.bind_some, spec_BarsOk.j0]
  by_cases h1 : 1 ≤ bar ∧ bar ≤ 1000
  · by_cases h2 : l.length ≤ 8
    · have := bars_l bar l h2 l.length k 0 (by omega) (by omega) (by omega)
      simp only [Int.ofNat_zero, List.drop_zero] at this
      rw [this]
      generalize (l.all fun p => decide (1 ≤ p ∧ p ≤ bar)) = q
      simp [h1, h2, show ¬ (l.length : Int) > 8 by omega]
    · simp [h1, h2, show (l.length : Int) > 8 by omega]
  · simp [h1]

/-- The sums on the bars, piece by piece; none where the numbers are not in order, or a bar has too much. -/
def sumsGo (bar : Int) (pieces : List Int) : List Int → Nat → List Int → Option (List Int)
  | [], _, s => some s
  | n :: r, i, s => if n < 0 ∨ n > (s.length : Int) then none else
      if wrap64 (rd (if n = (s.length : Int) then s ++ [0] else s) n + rd pieces (i : Int)) > bar then none
      else sumsGo bar pieces r (i + 1) ((if n = (s.length : Int) then s ++ [0] else s).set n.toNat (wrap64 (rd (if n = (s.length : Int) then s ++ [0] else s) n + rd pieces (i : Int))))
theorem drop_rd {l : List Int} {i : Nat} (h : i < l.length) : l.drop i = rd l (i : Int) :: l.drop (i + 1) := by
  rw [rd_get l i h]
  exact List.drop_eq_getElem_cons h
theorem sums_impl_l (bar : Int) (p l : List Int) (hp : p.length = l.length) (hl : l.length ≤ 1048576) (d : Nat) : ∀ (k i : Nat) (s : List Int), l.length - i = d → i ≤ l.length → s.length ≤ i → 2 * d < k → impl_barSums.l0 k bar p s l (l.length : Int) (i : Int) = some (match sumsGo bar p (l.drop i) i s with | none => ([], false) | some s' => (s', true)) := by
  induction d with
  | zero =>
    intro k i s hd hi hs hk
    obtain ⟨k, rfl⟩ := succ_of (show 0 < k by omega)
    simp only [impl_barSums.l0, lt_f (show l.length ≤ i by omega), if_false, List.drop_of_length_le (show l.length ≤ i by omega), sumsGo]
  | succ d ih =>
    intro k i s hd hi hs hk
    obtain ⟨k, rfl⟩ := succ_of (show 0 < k by omega)
    obtain ⟨k, rfl⟩ := succ_of (show 0 < k by omega)
    have hlt : i < l.length := by omega
    have hltp : i < p.length := by omega
    rw [drop_rd hlt]
    simp only [impl_barSums.l0, impl_barSums.j1, lt_t hlt, lt_t hltp, nn_t, if_true, w1 (show i ≤ 140737488355328 by omega), sumsGo]
    generalize rd l (i : Int) = n
    generalize rd p (i : Int) = v
    by_cases h1 : n < 0
    · simp [h1]
    · by_cases h2 : n > (s.length : Int)
      · simp [h1, h2]
      · by_cases h3 : n = (s.length : Int)
        · subst h3
          have h4 : (((s.length : Int)) < ((s ++ [0]).length : Int)) := by rw [List.length_append]; simp; omega
          have a1 : ((s.length : Int) < 0) = False := eq_false (by omega)
          have a2 : ((s.length : Int) > (s.length : Int)) = False := eq_false (by omega)
          simp only [a1, a2, if_false, decide_false, Bool.false_eq_true, if_true, false_or, Option.bind_some, show (s.length < 17592186044416) = True from eq_true (by omega), nn_t, eq_true h4]
          by_cases h5 : wrap64 (rd (s ++ [0]) (s.length : Int) + v) > bar
          · simp [h5]
          · simp only [h5, if_false]
            rw [ih k (i + 1) _ (by omega) (by omega) (by rw [List.length_set, List.length_append]; simp; omega) (by omega)]
        · simp only [h1, h2, if_false, decide_false, Bool.false_eq_true, h3, false_or, show (0 ≤ n) = True from eq_true (by omega), show (n < (s.length : Int)) = True from eq_true (by omega), if_true]
          by_cases h5 : wrap64 (rd s n + v) > bar
          · simp [h5]
          · simp only [h5, if_false]
            rw [ih k (i + 1) _ (by omega) (by omega) (by rw [List.length_set]; omega) (by omega)]
theorem sums_impl (bar : Int) (p l : List Int) (hl : l.length ≤ 1048576) (k : Nat) (hk : 2 * l.length < k) : impl_barSums.f k bar p l = some (if l.length = p.length then (match sumsGo bar p l 0 [] with | none => ([], false) | some s' => (s', true)) else ([], false)) := by
  unfold impl_barSums.f
  by_cases h : l.length = p.length
  · rw [if_pos (by omega), if_pos h]
    exact sums_impl_l bar p l h.symm hl l.length k 0 [] (by omega) (by omega) (by simp) hk
  · rw [if_neg (by omega), if_neg h]
theorem rd_map {f : Int → Int} {s : List Int} {n : Int} (h0 : 0 ≤ n) (h1 : n < (s.length : Int)) : rd (s.map f) n = f (rd s n) := by
  obtain ⟨m, rfl⟩ := Int.eq_ofNat_of_zero_le h0
  rw [rd_get _ _ (by rw [List.length_map]; omega), rd_get _ _ (by omega), List.getElem_map]
theorem rd_mem {s : List Int} {n : Int} (h0 : 0 ≤ n) (h1 : n < (s.length : Int)) : rd s n ∈ s := by
  obtain ⟨m, rfl⟩ := Int.eq_ofNat_of_zero_le h0
  rw [rd_get _ _ (by omega)]
  exact List.getElem_mem _
/-- What goes on: lengths grow, the numbers lie below, the sums stay from 0 to the bar. -/
theorem sumsGo_ok (bar : Int) (p : List Int) (hb : 1 ≤ bar ∧ bar ≤ 1000) (hp : ∀ x ∈ p, 1 ≤ x ∧ x ≤ bar) (r : List Int) : ∀ (i : Nat) (s s' : List Int), i + r.length ≤ p.length → (∀ x ∈ s, 0 ≤ x ∧ x ≤ bar) → sumsGo bar p r i s = some s' → s.length ≤ s'.length ∧ (∀ n ∈ r, 0 ≤ n ∧ n < (s'.length : Int)) ∧ ∀ x ∈ s', 0 ≤ x ∧ x ≤ bar := by
  induction r with
  | nil =>
    intro i s s' hi hs h
    simp only [sumsGo, Option.some.injEq] at h
    subst h
    exact ⟨Nat.le_refl _, by simp, hs⟩
  | cons n r ih =>
    intro i s s' hi hs h
    rw [List.length_cons] at hi
    simp only [sumsGo] at h
    by_cases h1 : n < 0 ∨ n > (s.length : Int)
    · rw [if_pos h1] at h; simp at h
    · rw [if_neg h1] at h
      have hpi := hp _ (rd_mem (s := p) (n := (i : Int)) (by omega) (by omega))
      generalize rd p (i : Int) = v at h hpi
      obtain ⟨s1, hs1⟩ : ∃ s1, (if n = (s.length : Int) then s ++ [0] else s) = s1 := ⟨_, rfl⟩
      rw [hs1] at h
      have hlen : s.length ≤ s1.length ∧ n < (s1.length : Int) := by
        rw [← hs1]; split
        · rw [List.length_append]; simp; omega
        · omega
      have hs1b : ∀ x ∈ s1, 0 ≤ x ∧ x ≤ bar := by
        intro x hx
        rw [← hs1] at hx
        split at hx
        · rcases List.mem_append.mp hx with hx | hx
          · exact hs x hx
          · simp at hx; omega
        · exact hs x hx
      have hx := hs1b _ (rd_mem (s := s1) (n := n) (by omega) hlen.2)
      rw [w64 (by omega) (by omega)] at h
      by_cases h2 : rd s1 n + v > bar
      · rw [if_pos h2] at h; simp at h
      · rw [if_neg h2] at h
        obtain ⟨g1, g2, g3⟩ := ih (i + 1) _ s' (by omega) (by
          intro x hx
          rcases List.mem_or_eq_of_mem_set hx with hx | hx
          · exact hs1b x hx
          · omega) h
        rw [List.length_set] at g1
        refine ⟨by omega, fun m hm => ?_, g3⟩
        rcases List.mem_cons.mp hm with rfl | hm
        · omega
        · exact g2 m hm
theorem left_spec_l (bar : Int) (hb : 1 ≤ bar ∧ bar ≤ 1000) (p l : List Int) (hp : ∀ x ∈ p, 1 ≤ x ∧ x ≤ bar) (hpl : p.length = l.length) (hl : l.length ≤ 1048576) (d : Nat) : ∀ (k i : Nat) (s : List Int), l.length - i = d → i ≤ l.length → s.length ≤ i → (∀ x ∈ s, 0 ≤ x ∧ x ≤ bar) → d < k → spec_l18Left.l0 k bar p (s.map fun x => bar - x) l (l.length : Int) (i : Int) = some (match sumsGo bar p (l.drop i) i s with | none => [] | some s' => s'.map fun x => bar - x) := by
  induction d with
  | zero =>
    intro k i s hd hi hs hsb hk
    obtain ⟨k, rfl⟩ := succ_of (show 0 < k by omega)
    simp only [spec_l18Left.l0, lt_f (show l.length ≤ i by omega), if_false, List.drop_of_length_le (show l.length ≤ i by omega), sumsGo]
  | succ d ih =>
    intro k i s hd hi hs hsb hk
    obtain ⟨k, rfl⟩ := succ_of (show 0 < k by omega)
    have hlt : i < l.length := by omega
    have hltp : i < p.length := by omega
    have hpi := hp _ (rd_mem (s := p) (n := (i : Int)) (by omega) (by omega))
    rw [drop_rd hlt]
    simp only [spec_l18Left.l0, lt_t hlt, lt_t hltp, nn_t, if_true, w1 (show i ≤ 140737488355328 by omega), sumsGo, l01In_f, Option.bind_some, List.length_map]
    generalize rd l (i : Int) = n
    generalize rd p (i : Int) = v at hpi ⊢
    by_cases h1 : 0 ≤ n ∧ n ≤ (s.length : Int)
    · rw [if_neg (show ¬ (n < 0 ∨ n > (s.length : Int)) by omega)]
      simp only [h1, decide_true, if_true, and_self]
      obtain ⟨s1, hs1⟩ : ∃ s1, (if n = (s.length : Int) then s ++ [0] else s) = s1 := ⟨_, rfl⟩
      have hlen : s.length ≤ s1.length ∧ s1.length ≤ i + 1 ∧ n < (s1.length : Int) := by
        rw [← hs1]; split
        · rw [List.length_append]; simp; omega
        · omega
      have hs1b : ∀ x ∈ s1, 0 ≤ x ∧ x ≤ bar := by
        intro x hx
        rw [← hs1] at hx
        split at hx
        · rcases List.mem_append.mp hx with hx | hx
          · exact hsb x hx
          · simp at hx; omega
        · exact hsb x hx
      have hx := hs1b _ (rd_mem (s := s1) (n := n) (by omega) hlen.2.2)
      rw [hs1]
      have key : (if n < ((s1.map fun x => bar - x).length : Int) then (if wrap64 (rd (s1.map fun x => bar - x) n - v) < 0 then some ([] : List Int) else spec_l18Left.l0 k bar p ((s1.map fun x => bar - x).set n.toNat (wrap64 (rd (s1.map fun x => bar - x) n - v))) l (l.length : Int) ((i + 1 : Nat) : Int)) else none) = some (match (if wrap64 (rd s1 n + v) > bar then none else sumsGo bar p (l.drop (i + 1)) (i + 1) (s1.set n.toNat (wrap64 (rd s1 n + v)))) with | none => [] | some s' => s'.map fun x => bar - x) := by
        rw [List.length_map, if_pos hlen.2.2, rd_map h1.1 hlen.2.2, w64 (show -9223372036854775808 ≤ bar - rd s1 n - v by omega) (by omega), w64 (show -9223372036854775808 ≤ rd s1 n + v by omega) (by omega)]
        by_cases h2 : rd s1 n + v > bar
        · rw [if_pos (by omega), if_pos h2]
        · rw [if_neg (by omega), if_neg h2]
          have e : ((s1.map fun x => bar - x).set n.toNat (bar - rd s1 n - v)) = (s1.set n.toNat (rd s1 n + v)).map fun x => bar - x := by
            rw [List.map_set]
            congr 1
            omega
          rw [e]
          exact ih k (i + 1) _ (by omega) (by omega) (by rw [List.length_set]; omega) (by
            intro x hx
            rcases List.mem_or_eq_of_mem_set hx with hx | hx
            · exact hs1b x hx
            · omega) (by omega)
      by_cases h3 : n = (s.length : Int)
      · have e : (s.map fun x => bar - x) ++ [bar] = s1.map fun x => bar - x := by
          rw [← hs1, if_pos h3, List.map_append]
          simp
        simp only [h3, if_true, show (s.length < 17592186044416) = True from eq_true (by omega), nn_t]
        rw [e, ← h3]
        exact key
      · have e : s1 = s := by rw [← hs1, if_neg h3]
        subst e
        simp only [h3, if_false, List.length_map] at key ⊢
        exact key
    · rw [if_pos (show (n < 0 ∨ n > (s.length : Int)) by omega)]
      simp [h1]
theorem left_spec (bar : Int) (hb : 1 ≤ bar ∧ bar ≤ 1000) (p l : List Int) (hp : ∀ x ∈ p, 1 ≤ x ∧ x ≤ bar) (hl : l.length ≤ 1048576) (hpl : l.length = p.length) (k : Nat) (hk : l.length < k) : spec_l18Left.f k bar p l = some (match sumsGo bar p l 0 [] with | none => [] | some s' => s'.map fun x => bar - x) := by
  unfold spec_l18Left.f
  rw [if_pos (by omega)]
  exact left_spec_l bar hb p l hp hpl.symm hl l.length k 0 [] (by omega) (by omega) (by simp) (by simp) hk
def barsOk (bar : Int) (l : List Int) : Bool := decide (1 ≤ bar ∧ bar ≤ 1000) && (decide (l.length ≤ 8) && l.all fun p => decide (1 ≤ p ∧ p ≤ bar))
theorem barsOk_spec (bar : Int) (l : List Int) (k : Nat) (hk : 9 < k) : spec_BarsOk.f k bar l = some (barsOk bar l) := bars_f bar l k hk
theorem barsOk_impl (bar : Int) (l : List Int) : impl_BarsOk.f bar l = some (barsOk bar l) := rfl
theorem barsOk_facts {bar : Int} {l : List Int} (h : barsOk bar l = true) : (1 ≤ bar ∧ bar ≤ 1000) ∧ l.length ≤ 8 ∧ ∀ x ∈ l, 1 ≤ x ∧ x ≤ bar := by
  simp only [barsOk, Bool.and_eq_true, decide_eq_true_eq, List.all_eq_true] at h
  exact h
def planOk (bar : Int) (p l : List Int) : Bool := barsOk bar p && (decide (l.length = p.length) && (sumsGo bar p l 0 []).isSome)
theorem plan_impl (bar : Int) (p l : List Int) (hl : l.length ≤ 1048576) (k : Nat) (hk : 2 * l.length < k) : impl_BarPlanOk.f k bar p l = some (planOk bar p l) := by
  unfold impl_BarPlanOk.f planOk
  rw [sums_impl bar p l hl k hk]
  simp only [Option.bind_some, barsOk_impl]
  by_cases h : l.length = p.length
  · simp only [h, if_true, decide_true, Bool.true_and]
    cases sumsGo bar p l 0 [] <;> simp
  · simp [h]
theorem plan_spec (bar : Int) (p l : List Int) (hl : l.length ≤ 1048576) (k : Nat) (hk : l.length + 10 < k) : spec_BarPlanOk.f k bar p l = some (planOk bar p l) := by
  unfold spec_BarPlanOk.f planOk
  rw [barsOk_spec bar p k (by omega)]
  simp only [Option.bind_some]
  by_cases hb : barsOk bar p = true
  · obtain ⟨b1, b2, b3⟩ := barsOk_facts hb
    by_cases h : l.length = p.length
    · rw [if_pos hb, if_pos (by omega), hb]
      simp only [h, decide_true, Bool.true_and]
      by_cases h0 : l.length = 0
      · have : l = [] := List.eq_nil_of_length_eq_zero h0
        subst this
        rw [if_pos (by omega)]
        simp [sumsGo]
      · rw [if_neg (by omega), left_spec bar b1 p l b3 hl h k (by omega)]
        simp only [Option.bind_some]
        cases hs : sumsGo bar p l 0 [] with
        | none => simp
        | some s' =>
          have := (sumsGo_ok bar p b1 b3 l 0 [] s' (by omega) (by simp) hs).2.1
          match l, h0, this with
          | n :: r, _, this =>
            have := this n (by simp)
            simp
            omega
    · rw [if_pos hb, if_neg (by omega)]
      simp [h]
  · rw [if_neg hb]
    simp [hb]
theorem sumsGo_len (bar : Int) (p : List Int) (r : List Int) : ∀ (i : Nat) (s s' : List Int), sumsGo bar p r i s = some s' → s'.length ≤ s.length + r.length := by
  induction r with
  | nil =>
    intro i s s' h
    simp only [sumsGo, Option.some.injEq] at h
    subst h
    simp
  | cons n r ih =>
    intro i s s' h
    simp only [sumsGo] at h
    by_cases h1 : n < 0 ∨ n > (s.length : Int)
    · rw [if_pos h1] at h; simp at h
    · rw [if_neg h1] at h
      obtain ⟨s1, hs1⟩ : ∃ s1, (if n = (s.length : Int) then s ++ [0] else s) = s1 := ⟨_, rfl⟩
      have hlen : s1.length ≤ s.length + 1 := by
        rw [← hs1]; split
        · rw [List.length_append]; simp
        · omega
      rw [hs1] at h
      by_cases h2 : wrap64 (rd s1 n + rd p (i : Int)) > bar
      · rw [if_pos h2] at h; simp at h
      · rw [if_neg h2] at h
        have := ih _ _ _ h
        rw [List.length_set] at this
        rw [List.length_cons]
        omega

def tightOne (bar : Int) (s : List Int) (v : Int) (n : Nat) : Bool := (s.take n).all fun x => decide (¬ (x + v ≤ bar))
def tightGo (bar : Int) (p s : List Int) : List Int → Nat → Bool
  | [], _ => true
  | n :: r, i => tightOne bar s (rd p (i : Int)) n.toNat && tightGo bar p s r (i + 1)
theorem all_take_step {s : List Int} {f : Int → Bool} {j n : Nat} (hj : j < n) (hn : n ≤ s.length) : ((s.take n).drop j).all f = (f (rd s (j : Int)) && ((s.take n).drop (j + 1)).all f) := by
  have hl : j < (s.take n).length := by rw [List.length_take]; omega
  rw [List.drop_eq_getElem_cons hl, List.all_cons, List.getElem_take, rd_get s j (by omega)]
theorem tight_impl_in (bar : Int) (hb : 1 ≤ bar ∧ bar ≤ 1000) (p s l : List Int) (hp : ∀ x ∈ p, 1 ≤ x ∧ x ≤ bar) (hs : ∀ x ∈ s, 0 ≤ x ∧ x ≤ bar) (i n : Nat) (hi : i < p.length) (hn : n ≤ s.length) (hn2 : n ≤ 1048576) (Q : Bool) (d : Nat) : ∀ (k j : Nat), n - j = d → j ≤ n → d < k → (∀ k', k ≤ k' + d + 1 → impl_IsTightPlan.l0 k' bar p s l (l.length : Int) (wrap64 ((i : Int) + 1)) = some Q) → impl_IsTightPlan.l1 k bar p s (i : Int) l (l.length : Int) (i : Int) (n : Int) (j : Int) = some (((s.take n).drop j).all (fun x => decide (¬ (x + rd p (i : Int) ≤ bar))) && Q) := by
  induction d with
  | zero =>
    intro k j hd hj hk hQ
    obtain ⟨k, rfl⟩ := succ_of hk
    have : j = n := by omega
    subst this
    simp only [impl_IsTightPlan.l1, lt_f (Nat.le_refl j), if_false]
    rw [hQ k (by omega), List.drop_of_length_le (by rw [List.length_take]; omega)]
    simp
  | succ d ih =>
    intro k j hd hj hk hQ
    obtain ⟨k, rfl⟩ := succ_of hk
    have hlt : j < n := by omega
    have h1 := hs _ (rd_mem (s := s) (n := (j : Int)) (by omega) (by omega))
    have h2 := hp _ (rd_mem (s := p) (n := (i : Int)) (by omega) (by omega))
    have hih := ih k (j + 1) (by omega) (by omega) (by omega) (fun k' hk' => hQ k' (by omega))
    rw [all_take_step hlt hn]
    simp only [impl_IsTightPlan.l1, lt_t hlt, lt_t (show j < s.length by omega), lt_t hi, nn_t, if_true, w1 (show j ≤ 140737488355328 by omega), hih]
    rw [w64 (by omega) (by omega)]
    by_cases g : rd s (j : Int) + rd p (i : Int) ≤ bar
    · simp [g]
    · simp [g]
theorem tight_impl_l (bar : Int) (hb : 1 ≤ bar ∧ bar ≤ 1000) (p s l : List Int) (hp : ∀ x ∈ p, 1 ≤ x ∧ x ≤ bar) (hs : ∀ x ∈ s, 0 ≤ x ∧ x ≤ bar) (hpl : l.length = p.length) (hl : l.length ≤ 8) (hs8 : s.length ≤ 8) (hn : ∀ n ∈ l, 0 ≤ n ∧ n < (s.length : Int)) (d : Nat) : ∀ (k i : Nat), l.length - i = d → i ≤ l.length → 20 * d < k → impl_IsTightPlan.l0 k bar p s l (l.length : Int) (i : Int) = some (tightGo bar p s (l.drop i) i) := by
  induction d with
  | zero =>
    intro k i hd hi hk
    obtain ⟨k, rfl⟩ := succ_of (show 0 < k by omega)
    simp only [impl_IsTightPlan.l0, lt_f (show l.length ≤ i by omega), if_false, List.drop_of_length_le (show l.length ≤ i by omega), tightGo]
  | succ d ih =>
    intro k i hd hi hk
    obtain ⟨k, rfl⟩ := succ_of (show 0 < k by omega)
    have hlt : i < l.length := by omega
    have hni := hn _ (rd_mem (s := l) (n := (i : Int)) (by omega) (by omega))
    rw [drop_rd hlt]
    simp only [impl_IsTightPlan.l0, lt_t hlt, nn_t, if_true, tightGo, tightOne]
    obtain ⟨n, e⟩ := Int.eq_ofNat_of_zero_le hni.1
    rw [e] at hni ⊢
    rw [Int.toNat_natCast]
    have := tight_impl_in bar hb p s l hp hs i n (by omega) (by omega) (by omega) (tightGo bar p s (l.drop (i + 1)) (i + 1)) n k 0 (by omega) (by omega) (by omega) (fun k' hk' => by
      rw [w1 (show i ≤ 140737488355328 by omega)]
      exact ih k' (i + 1) (by omega) (by omega) (by omega))
    rw [Int.ofNat_zero, List.drop_zero] at this
    exact this
theorem tight_spec_in (bar : Int) (hb : 1 ≤ bar ∧ bar ≤ 1000) (p s l : List Int) (hp : ∀ x ∈ p, 1 ≤ x ∧ x ≤ bar) (hs : ∀ x ∈ s, 0 ≤ x ∧ x ≤ bar) (i n : Nat) (hi : i < p.length) (hn : n ≤ s.length) (hn2 : n ≤ 1048576) (Q : Bool) (d : Nat) : ∀ (k j : Nat), n - j = d → j ≤ n → d < k → (∀ k', k ≤ k' + d + 1 → spec_IsTightPlan.l0 k' p (s.map fun x => bar - x) l (l.length : Int) (wrap64 ((i : Int) + 1)) = some Q) → spec_IsTightPlan.l1 k p (s.map fun x => bar - x) (i : Int) l (l.length : Int) (i : Int) ((s.map fun x => bar - x).take n) (n : Int) (j : Int) = some (((s.take n).drop j).all (fun x => decide (¬ (x + rd p (i : Int) ≤ bar))) && Q) := by
  have hlen : ((s.map fun x => bar - x).take n).length = n := by rw [List.length_take, List.length_map]; omega
  induction d with
  | zero =>
    intro k j hd hj hk hQ
    obtain ⟨k, rfl⟩ := succ_of hk
    have : j = n := by omega
    subst this
    simp only [spec_IsTightPlan.l1, lt_f (Nat.le_refl j), if_false]
    rw [hQ k (by omega), List.drop_of_length_le (by rw [List.length_take]; omega)]
    simp
  | succ d ih =>
    intro k j hd hj hk hQ
    obtain ⟨k, rfl⟩ := succ_of hk
    have hlt : j < n := by omega
    have h1 := hs _ (rd_mem (s := s) (n := (j : Int)) (by omega) (by omega))
    have h2 := hp _ (rd_mem (s := p) (n := (i : Int)) (by omega) (by omega))
    have hih := ih k (j + 1) (by omega) (by omega) (by omega) (fun k' hk' => hQ k' (by omega))
    have hx : rd ((s.map fun x => bar - x).take n) (j : Int) = bar - rd s (j : Int) := by
      rw [rd_get _ _ (by omega), List.getElem_take, List.getElem_map, rd_get s j (by omega)]
    rw [all_take_step hlt hn]
    simp only [spec_IsTightPlan.l1, lt_t hlt, hlen, lt_t hi, nn_t, if_true, w1 (show j ≤ 140737488355328 by omega), hih, hx]
    by_cases g : rd s (j : Int) + rd p (i : Int) ≤ bar
    · rw [if_pos (by omega)]
      simp [g]
    · rw [if_neg (by omega)]
      simp [g]
theorem tight_spec_l (bar : Int) (hb : 1 ≤ bar ∧ bar ≤ 1000) (p s l : List Int) (hp : ∀ x ∈ p, 1 ≤ x ∧ x ≤ bar) (hs : ∀ x ∈ s, 0 ≤ x ∧ x ≤ bar) (hpl : l.length = p.length) (hl : l.length ≤ 8) (hs8 : s.length ≤ 8) (hn : ∀ n ∈ l, 0 ≤ n ∧ n < (s.length : Int)) (d : Nat) : ∀ (k i : Nat), l.length - i = d → i ≤ l.length → 20 * d < k → spec_IsTightPlan.l0 k p (s.map fun x => bar - x) l (l.length : Int) (i : Int) = some (tightGo bar p s (l.drop i) i) := by
  induction d with
  | zero =>
    intro k i hd hi hk
    obtain ⟨k, rfl⟩ := succ_of (show 0 < k by omega)
    simp only [spec_IsTightPlan.l0, lt_f (show l.length ≤ i by omega), if_false, List.drop_of_length_le (show l.length ≤ i by omega), tightGo]
  | succ d ih =>
    intro k i hd hi hk
    obtain ⟨k, rfl⟩ := succ_of (show 0 < k by omega)
    have hlt : i < l.length := by omega
    have hni := hn _ (rd_mem (s := l) (n := (i : Int)) (by omega) (by omega))
    rw [drop_rd hlt]
    simp only [spec_IsTightPlan.l0, lt_t hlt, nn_t, if_true, tightGo, tightOne]
    obtain ⟨n, e⟩ := Int.eq_ofNat_of_zero_le hni.1
    rw [e] at hni ⊢
    rw [Int.toNat_natCast, if_pos (by omega), if_pos (by rw [List.length_map]; omega)]
    have hlen : ((s.map fun x => bar - x).take n).length = n := by rw [List.length_take, List.length_map]; omega
    have := tight_spec_in bar hb p s l hp hs i n (by omega) (by omega) (by omega) (tightGo bar p s (l.drop (i + 1)) (i + 1)) n k 0 (by omega) (by omega) (by omega) (fun k' hk' => by
      rw [w1 (show i ≤ 140737488355328 by omega)]
      exact ih k' (i + 1) (by omega) (by omega) (by omega))
    rw [Int.ofNat_zero, List.drop_zero] at this
    simp only [Option.bind_some, hlen]
    exact this
theorem tight_both (bar : Int) (p l : List Int) (hl : l.length ≤ 1048576) (k : Nat) (hk : 2 * l.length + 300 < k) : ∃ r, spec_IsTightPlan.f k bar p l = some r ∧ impl_IsTightPlan.f k bar p l = some r := by
  unfold spec_IsTightPlan.f impl_IsTightPlan.f
  rw [plan_spec bar p l hl k (by omega), plan_impl bar p l hl k (by omega)]
  simp only [Option.bind_some]
  by_cases h : planOk bar p l = true
  · have h' := h
    simp only [planOk, Bool.and_eq_true, decide_eq_true_eq, Option.isSome_iff_exists] at h'
    obtain ⟨hb, he, s', hs⟩ := h'
    obtain ⟨b1, b2, b3⟩ := barsOk_facts hb
    obtain ⟨g1, g2, g3⟩ := sumsGo_ok bar p b1 b3 l 0 [] s' (by omega) (by simp) hs
    have hlen : s'.length ≤ l.length := by have := sumsGo_len bar p l 0 [] s' hs; simpa using this
    rw [if_pos h, if_pos h, left_spec bar b1 p l b3 hl he k (by omega), sums_impl bar p l hl k (by omega), if_pos he, hs]
    simp only [Option.bind_some]
    have a1 := tight_impl_l bar b1 p s' l b3 g3 he (by omega) (by omega) g2 l.length k 0 (by omega) (by omega) (by omega)
    have a2 := tight_spec_l bar b1 p s' l b3 g3 he (by omega) (by omega) g2 l.length k 0 (by omega) (by omega) (by omega)
    rw [Int.ofNat_zero] at a1 a2
    exact ⟨_, a2, a1⟩
  · rw [if_neg h, if_neg h]
    exact ⟨_, rfl, rfl⟩
theorem FnExactIsTightPlan : laws_FnExactIsTightPlan.Pure := by
  intro bar p l _ _ _ _ _ _ _
  refine ⟨2 * l.length + p.length + 315, ?_⟩
  unfold laws_FnExactIsTightPlan.f
  by_cases hp : (p.length : Int) > 1048576
  · rw [if_pos hp]
  · rw [if_neg hp]
    by_cases hl : (l.length : Int) > 1048576
    · rw [if_pos hl]
    · obtain ⟨r, r1, r2⟩ := tight_both bar p l (by omega) (2 * l.length + p.length + 315) (by omega)
      rw [if_neg hl, toIntS p (by omega) _ (by omega), toIntS l (by omega) _ (by omega)]
      simp only [Option.bind_some, r1, r2, eqIntS p p (by omega) _ (show p.length < 2 * l.length + p.length + 315 by omega), eqIntS l l (by omega) _ (show l.length < 2 * l.length + p.length + 315 by omega)]
      simp

end Go.Proofs.Ytcmmammefghjdaa.Pure
