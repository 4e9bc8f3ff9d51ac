/- FnBars: what the great law asks of plans of bars: first fit is never more than twice the least number, longest first is near the best, the search finds the first best plan. -/
import Derived.Test.YtadloeklhjoohaaXFnBarsx9
namespace Go.Proofs.Ytadloeklhjoohaa.Pure
open Go.RowKit Go.Proofs.Ytadloeklhjoohaa.XFnBars Go.Proofs.YtadloeklhjoohaaW.PrintWords Go.Proofs.YtadloeklhjoohaaW.PrintLast
set_option linter.unusedVariables false
set_option linter.unusedSimpArgs false
theorem wf64 {x : Int} (h : (Lit.int .i64 x).wf = true) : -9223372036854775808 ≤ x ∧ x ≤ 9223372036854775807 := by
  simp only [Lit.wf, IntKind.min, IntKind.max, IntKind.signed, IntKind.bits, Bool.and_eq_true, decide_eq_true_eq, if_true] at h
  omega
theorem w64 {x : Int} (h0 : -9223372036854775808 ≤ x) (h1 : x ≤ 9223372036854775807) : wrap64 x = x := by
  unfold wrap64
  omega
theorem succ_of {d k : Nat} (h : d < k) : ∃ m, k = m + 1 := ⟨k - 1, by omega⟩
theorem rd_nat (l : List Int) (i : Nat) : rd l (i : Int) = l.getD i 0 := by simp [rd]
theorem rd_get (l : List Int) (i : Nat) (h : i < l.length) : rd l (i : Int) = l[i] := by simp [rd, List.getD_eq_getElem?_getD, h]
theorem w1 {i : Nat} (h : i ≤ 140737488355328) : wrap64 ((i : Int) + 1) = ((i + 1 : Nat) : Int) := by
  unfold wrap64
  omega
theorem lt_t {i n : Nat} (h : i < n) : ((i : Int) < (n : Int)) = True := eq_true (by omega)
theorem lt_f {i n : Nat} (h : n ≤ i) : ((i : Int) < (n : Int)) = False := eq_false (by omega)
theorem nn_t (i : Nat) : (0 ≤ (i : Int)) = True := eq_true (by omega)
theorem w64n (n : Nat) (h : n ≤ 9223372036854775807) : wrap64 (n : Int) = (n : Int) := w64 (by omega) (by omega)
theorem w64sub (a b c : Nat) (ha : a ≤ 9223372036854775807) (h : a = b + c) : wrap64 ((a : Int) - (b : Int)) = (c : Int) := by
  rw [w64 (by omega) (by omega)]
  omega
theorem within_f (a b c : Int) : impl_within.f a b c = some (decide (b ≤ a ∧ a ≤ c)) := by
  unfold impl_within.f
  by_cases h : a ≥ b
  · rw [if_pos h]; simp [show b ≤ a from h]
  · rw [if_neg h]; simp [show ¬ b ≤ a from h]
def iota (n : Nat) : List Int := (List.range n).map fun j : Nat => (j : Int)
theorem iota_len (n : Nat) : (iota n).length = n := by simp [iota]
theorem iota_snoc (n : Nat) : iota n ++ [(n : Int)] = iota (n + 1) := by simp [iota, List.range_succ]
theorem iota_drop (n i : Nat) (h : i < n) : (iota n).drop i = (i : Int) :: (iota n).drop (i + 1) := by
  rw [List.drop_eq_getElem_cons (by rw [iota_len]; exact h)]
  simp [iota]
def fAt (left : List Int) (p : Int) : Nat := left.findIdx (fun x => decide (p ≤ x))
theorem fAt_le (left : List Int) (p : Int) : fAt left p ≤ left.length := List.findIdx_le_length
theorem fAt_hit {left : List Int} {p : Int} (h : fAt left p < left.length) : p ≤ left[fAt left p] := by
  have h2 := List.findIdx_getElem (xs := left) (p := fun x => decide (p ≤ x)) (w := h)
  exact of_decide_eq_true h2
theorem fAt_miss {left : List Int} {p : Int} {j : Nat} (h : j < fAt left p) : left[j]'(Nat.lt_of_lt_of_le h (fAt_le _ _)) < p := by
  have := List.not_of_lt_findIdx h
  simp at this
  omega
theorem fAt_eq {left : List Int} {p : Int} {j : Nat} (hj : j < left.length) (h1 : p ≤ left[j]) (h2 : j ≤ fAt left p) : fAt left p = j := by
  rcases Nat.lt_or_ge j (fAt left p) with h | h
  · have := fAt_miss h
    omega
  · omega
def nxt (bar : Int) (left : List Int) (p : Int) : List Int := if fAt left p < left.length then left.set (fAt left p) (rd left ((fAt left p : Nat) : Int) - p) else left ++ [bar - p]
theorem nxt_len (bar : Int) (left : List Int) (p : Int) : (nxt bar left p).length = if fAt left p < left.length then left.length else left.length + 1 := by
  unfold nxt
  split <;> simp
def fitL (bar : Int) (ps : List Int) : List Int → List Int → List Int → List Int
  | [], plan, _ => plan
  | i :: o, plan, left => fitL bar ps o (plan.set i.toNat ((fAt left (rd ps i) : Nat) : Int)) (nxt bar left (rd ps i))
structure Fits (bar : Int) (ps left : List Int) : Prop where
  bar_ok : 1 ≤ bar ∧ bar ≤ 1000
  each : ∀ i : Int, 0 ≤ i → i < (ps.length : Int) → 1 ≤ rd ps i ∧ rd ps i ≤ bar
  left_ok : ∀ x ∈ left, 0 ≤ x ∧ x ≤ bar
theorem Fits.next {bar : Int} {ps left : List Int} (h : Fits bar ps left) (i : Int) (h0 : 0 ≤ i) (h1 : i < (ps.length : Int)) : Fits bar ps (nxt bar left (rd ps i)) := by
  refine ⟨h.bar_ok, h.each, fun x hx => ?_⟩
  have hp := h.each i h0 h1
  unfold nxt at hx
  by_cases e : fAt left (rd ps i) < left.length
  · rw [if_pos e] at hx
    rcases List.mem_or_eq_of_mem_set hx with hx | hx
    · exact h.left_ok x hx
    · have h2 := h.left_ok _ (List.getElem_mem e)
      have h3 := fAt_hit e
      rw [rd_get _ _ e] at hx
      omega
  · rw [if_neg e, List.mem_append, List.mem_singleton] at hx
    rcases hx with hx | hx
    · exact h.left_ok x hx
    · omega
theorem rd_snoc (l : List Int) (x : Int) : rd (l ++ [x]) (l.length : Int) = x := by
  rw [rd_get _ _ (by simp)]
  simp
theorem set_snoc (l : List Int) (x y : Int) : (l ++ [x]).set l.length y = l ++ [y] := by
  simp [List.set_append]
theorem impl_l1 (bar : Int) (ps plan left : List Int) (W : Fits bar ps left) (hl : left.length ≤ 20) (i : Int) (h0 : 0 ≤ i) (h1 : i < (ps.length : Int)) (hpl : plan.length = ps.length) (ord : List Int) (n c : Int) (K : Nat) (d : Nat) : ∀ j : Nat, j ≤ fAt left (rd ps i) → fAt left (rd ps i) - j = d →
    impl_firstFit.l1 (K + d + 1) bar ps plan left i (j : Int) ord n c = impl_firstFit.l0 K bar ps (plan.set i.toNat ((fAt left (rd ps i) : Nat) : Int)) (nxt bar left (rd ps i)) ord n (wrap64 (c + 1)) := by
  have hp := W.each i h0 h1
  have hb := W.bar_ok
  induction d with
  | zero =>
    intro j hj hd
    have ej : j = fAt left (rd ps i) := by omega
    simp only [Nat.add_zero, impl_firstFit.l1]
    by_cases e : j < left.length
    · have h2 : rd ps i ≤ left[j] := by subst ej; exact fAt_hit e
      have h3 := W.left_ok _ (List.getElem_mem e)
      have hn : nxt bar left (rd ps i) = left.set j (left[j] - rd ps i) := by
        unfold nxt
        rw [← ej, if_pos e, rd_get _ _ e]
      rw [if_pos (by omega), if_pos (by omega), if_pos h0, if_pos h1, rd_get left j e, if_neg (by omega), if_neg (by omega), if_pos (by omega), w64 (by omega) (by omega), Int.toNat_natCast, hn, ← ej]
    · have e2 : left.length = j := by have := fAt_le left (rd ps i); omega
      have hn : nxt bar left (rd ps i) = left ++ [bar - rd ps i] := by
        unfold nxt
        rw [← ej, if_neg e]
      rw [if_neg (by omega), if_pos (by omega), if_pos (by omega)]
      simp only [Option.bind_some]
      rw [if_pos (by omega), if_pos (by simp; omega), if_pos h0, if_pos h1, if_pos (by omega), ← e2, rd_snoc, w64 (by omega) (by omega), Int.toNat_natCast, set_snoc, hn]
      rw [← ej, ← e2]
  | succ d ih =>
    intro j hj hd
    have hlt : j < fAt left (rd ps i) := by omega
    have e : j < left.length := Nat.lt_of_lt_of_le hlt (fAt_le _ _)
    have h2 := fAt_miss hlt
    rw [show K + (d + 1) + 1 = (K + d + 1) + 1 by omega, impl_firstFit.l1]
    rw [if_pos (by omega), if_pos (by omega), if_pos h0, if_pos h1, rd_get left j e, if_pos h2, w1 (by omega)]
    exact ih (j + 1) (by omega) (by omega)
theorem impl_l0 (bar : Int) (ps : List Int) (hps : ps.length ≤ 8) (ord : List Int) (hord : ord.length ≤ 8) (ho : ∀ x ∈ ord, 0 ≤ x ∧ x < (ps.length : Int)) (d : Nat) : ∀ (K c : Nat) (plan left : List Int), Fits bar ps left → ord.length - c = d → c ≤ ord.length → plan.length = ps.length → left.length ≤ c → 20 * d < K →
    impl_firstFit.l0 K bar ps plan left ord (ord.length : Int) (c : Int) = some (fitL bar ps (ord.drop c) plan left) := by
  induction d with
  | zero =>
    intro K c plan left W hd hc hp hl hK
    obtain ⟨K, rfl⟩ := succ_of hK
    simp only [impl_firstFit.l0]
    rw [if_neg (by omega), List.drop_of_length_le (by omega)]
    rfl
  | succ d ih =>
    intro K c plan left W hd hc hp hl hK
    obtain ⟨K, rfl⟩ := succ_of (show 0 < K by omega)
    have hlt : c < ord.length := by omega
    have hm := ho _ (List.getElem_mem hlt)
    have ha := fAt_le left (rd ps ord[c])
    simp only [impl_firstFit.l0]
    rw [if_pos (by omega), if_pos (by omega), if_pos (by omega), rd_get ord c hlt]
    obtain ⟨K2, rfl⟩ : ∃ m, K = m + fAt left (rd ps ord[c]) + 1 := ⟨K - fAt left (rd ps ord[c]) - 1, by omega⟩
    have h1 := impl_l1 bar ps plan left W (by omega) ord[c] hm.1 hm.2 hp ord (ord.length : Int) (c : Int) K2 (fAt left (rd ps ord[c])) 0 (by omega) (by omega)
    rw [Int.ofNat_zero] at h1
    rw [h1, w1 (by omega), ih K2 (c + 1) _ _ (W.next _ hm.1 hm.2) (by omega) (by omega) (by rw [List.length_set]; exact hp) (by rw [nxt_len]; split <;> omega) (by omega), List.drop_eq_getElem_cons hlt]
    rfl
theorem fitL_len (bar : Int) (ps : List Int) : ∀ (o plan left : List Int), (fitL bar ps o plan left).length = plan.length
  | [], _, _ => rfl
  | i :: o, plan, left => by rw [fitL, fitL_len bar ps o, List.length_set]
theorem impl_fit (bar : Int) (ps : List Int) (hps : ps.length ≤ 8) (ord : List Int) (hord : ord.length ≤ 8) (ho : ∀ x ∈ ord, 0 ≤ x ∧ x < (ps.length : Int)) (W : Fits bar ps []) (K : Nat) (hK : 170 < K) : impl_firstFit.f0 K bar ps ord = some (fitL bar ps ord (List.replicate ps.length 0) []) := by
  unfold impl_firstFit.f0
  rw [if_pos (by omega), Int.toNat_natCast, if_pos (by omega)]
  have := impl_l0 bar ps hps ord hord ho ord.length K 0 (List.replicate ps.length 0) [] W (by omega) (by omega) (by simp) (by simp) (by omega)
  exact this
theorem orderOf_l (n : Nat) (hn : n ≤ 8) (d : Nat) : ∀ (k i : Nat), n - i = d → i ≤ n → d < k → impl_orderOf.l0 k (iota i) (n : Int) (i : Int) = some (iota n) := by
  induction d with
  | zero =>
    intro k i hd hi hk
    obtain ⟨k, rfl⟩ := succ_of hk
    have : i = n := by omega
    subst this
    simp only [impl_orderOf.l0, lt_f (Nat.le_refl i), if_false]
  | succ d ih =>
    intro k i hd hi hk
    obtain ⟨k, rfl⟩ := succ_of hk
    simp only [impl_orderOf.l0, lt_t (show i < n by omega), if_true, iota_len]
    rw [if_pos (by omega), iota_snoc, w1 (by omega)]
    exact ih k (i + 1) (by omega) (by omega) (by omega)
theorem orderOf_f (n : Nat) (hn : n ≤ 8) (k : Nat) (hk : 10 < k) : impl_orderOf.f k (n : Int) = some (iota n) := orderOf_l n hn n k 0 (by omega) (by omega) (by omega)
theorem iota_mem {n : Nat} {x : Int} (h : x ∈ iota n) : 0 ≤ x ∧ x < (n : Int) := by
  simp only [iota, List.mem_map, List.mem_range] at h
  obtain ⟨j, hj, rfl⟩ := h
  omega
theorem bars_fits {bar : Int} {ps : List Int} (h : impl_BarsOk.f bar ps = some true) : ps.length ≤ 8 ∧ Fits bar ps [] := by
  unfold impl_BarsOk.f at h
  have h := Option.some.inj h
  simp only [Bool.and_eq_true, decide_eq_true_eq, List.all_eq_true] at h
  refine ⟨h.2.1, h.1, fun i h0 h1 => ?_, by simp⟩
  obtain ⟨j, rfl⟩ := Int.eq_ofNat_of_zero_le h0
  have hj : j < ps.length := by omega
  rw [rd_get ps j hj]
  exact h.2.2 _ (List.getElem_mem hj)
def ren : List Int → List Int → List Int
  | _, [] => []
  | nm, v :: t => (((grow nm v).idxOf v : Nat) : Int) :: ren (grow nm v) t
theorem grow_len (nm : List Int) (v : Int) : (grow nm v).length ≤ nm.length + 1 := by
  unfold grow
  by_cases e : v ∈ nm
  · rw [if_pos e]; omega
  · rw [if_neg e]; simp
theorem grow_idx {nm : List Int} {v : Int} : (grow nm v).idxOf v = nm.idxOf v := by
  unfold grow
  by_cases e : v ∈ nm
  · rw [if_pos e]
  · rw [if_neg e, List.idxOf_append, if_neg e, List.idxOf_eq_length e]
    simp
theorem idx_nodup {nm : List Int} (h : nm.Nodup) {j : Nat} (hj : j < nm.length) : nm.idxOf nm[j] = j := by
  have h1 := List.idxOf_lt_length_of_mem (List.getElem_mem hj)
  have h2 := List.getElem_idxOf h1
  exact (List.getElem_inj h).mp h2
theorem renum_ren (x : List Int) (hx : x.length ≤ 20) (hb : ∀ v ∈ x, 0 ≤ v ∧ v ≤ 100) (d : Nat) : ∀ (k i : Nat) (y nm : List Int), y.length = x.length → y.drop i = x.drop i → x.length - i = d → i ≤ x.length → nm.length ≤ i → d < k → renum k y nm (i : Int) = some (y.take i ++ ren nm (x.drop i)) := by
  induction d with
  | zero =>
    intro k i y nm hy he hd hi hm hk
    obtain ⟨k, rfl⟩ := succ_of hk
    simp only [renum]
    rw [if_neg (by omega), List.drop_of_length_le (show x.length ≤ i by omega), List.take_of_length_le (by omega)]
    simp [ren]
  | succ d ih =>
    intro k i y nm hy he hd hi hm hk
    obtain ⟨k, rfl⟩ := succ_of hk
    have hlt : i < x.length := by omega
    have hlt2 : i < y.length := by omega
    have e1 : y[i] = x[i] := by
      have h7 : y[i]? = x[i]? := by
        have := congrArg List.head? he
        simpa using this
      rw [List.getElem?_eq_getElem hlt, List.getElem?_eq_getElem hlt2] at h7
      exact Option.some.inj h7
    have hv := hb _ (List.getElem_mem hlt)
    simp only [renum]
    rw [if_pos (by omega), rd_get y i hlt2, e1, if_pos ⟨⟨by omega, by omega⟩, by omega, by omega⟩, w1 (by omega), Int.toNat_natCast]
    have hg : (grow nm x[i]).length ≤ i + 1 := Nat.le_trans (grow_len nm _) (by omega)
    have hd2 : (y.set i (((grow nm x[i]).idxOf x[i] : Nat) : Int)).drop (i + 1) = x.drop (i + 1) := by
      rw [List.drop_set_of_lt (by omega)]
      have := congrArg (List.drop 1) he
      simpa [List.drop_drop] using this
    rw [ih k (i + 1) _ _ (by rw [List.length_set]; exact hy) hd2 (by omega) (by omega) hg (by omega)]
    rw [List.drop_eq_getElem_cons hlt, ren, List.take_add_one, List.take_set_of_le (Nat.le_refl _), List.getElem?_set_self hlt2]
    simp
def ht (l : List Int) (i : Int) : Int := rd l i
def posGo (l : List Int) (S : List Int) (x : Int) : Nat → Nat
  | 0 => 0
  | k + 1 => if ht l (rd S (k : Int)) < ht l x then posGo l S x k else k + 1
theorem posGo_le (l : List Int) (S : List Int) (x : Int) : ∀ k, posGo l S x k ≤ k
  | 0 => Nat.le_refl _
  | k + 1 => by
    unfold posGo
    split
    · have := posGo_le l S x k; omega
    · exact Nat.le_refl _
def insAt (S : List Int) (x : Int) (p : Nat) : List Int := S.take p ++ x :: S.drop p
theorem insAt_len (S : List Int) (x : Int) (p : Nat) : (insAt S x p).length = S.length + 1 := by
  simp [insAt, List.length_take, List.length_drop]
  omega
theorem insAt_mem {S : List Int} {x : Int} {p : Nat} {y : Int} (h : y ∈ insAt S x p) : y = x ∨ y ∈ S := by
  unfold insAt at h
  rw [List.mem_append, List.mem_cons] at h
  rcases h with h | h | h
  · exact .inr (List.mem_of_mem_take h)
  · exact .inl h
  · exact .inr (List.mem_of_mem_drop h)
def orderGo (l : List Int) : Nat → Nat → List Int → List Int
  | 0, _, S => S
  | d + 1, i, S => orderGo l d (i + 1) (insAt S (i : Int) (posGo l S (i : Int) S.length))
theorem orderGo_len (l : List Int) : ∀ (d i : Nat) (S : List Int), (orderGo l d i S).length = S.length + d
  | 0, _, _ => rfl
  | d + 1, i, S => by rw [orderGo, orderGo_len l d, insAt_len]; omega
structure Pieces (l : List Int) : Prop where
  len : l.length ≤ 8
  each : ∀ i : Int, 0 ≤ i → i < (l.length : Int) → 1 ≤ ht l i ∧ ht l i ≤ 1000
theorem swap_step (S R : List Int) (x : Int) (j : Nat) (hj : j < S.length) : ((S.take (j + 1) ++ x :: (S.drop (j + 1) ++ R)).set (j + 1) S[j]).set j x = S.take j ++ x :: (S.drop j ++ R) := by
  have h1 : S.take (j + 1) = S.take j ++ [S[j]] := (List.take_append_getElem hj).symm
  have hl : (S.take j).length = j := by rw [List.length_take]; omega
  rw [h1, List.drop_eq_getElem_cons hj]
  generalize S[j] = s
  generalize S.take j = T at hl
  generalize S.drop (j + 1) = D
  subst hl
  simp [List.set_append]
theorem at_pos (S R : List Int) (x : Int) (j : Nat) (hj : j ≤ S.length) : rd (S.take j ++ x :: (S.drop j ++ R)) (j : Int) = x := by
  have hl : (S.take j).length = j := by rw [List.length_take]; omega
  rw [rd_get _ _ (by rw [List.length_append, hl, List.length_cons]; omega), List.getElem_append_right (by omega)]
  simp [hl]
theorem before_pos (S R : List Int) (x : Int) (j : Nat) (hj : j + 1 ≤ S.length) : rd (S.take (j + 1) ++ x :: (S.drop (j + 1) ++ R)) (j : Int) = rd S (j : Int) := by
  have hl : (S.take (j + 1)).length = j + 1 := by rw [List.length_take]; omega
  rw [rd_get _ _ (by rw [List.length_append, hl]; omega), rd_get S j (by omega), List.getElem_append_left (by omega)]
  simp
theorem sort_l1 (l : List Int) (W : Pieces l) (S R : List Int) (hS : ∀ x ∈ S, 0 ≤ x ∧ x < (l.length : Int)) (hSl : S.length + R.length ≤ 20) (x : Int) (hx : 0 ≤ x ∧ x < (l.length : Int)) (n i : Int) (Q : List Int) : ∀ (j k : Nat), j ≤ S.length → j < k → (∀ k', k ≤ k' + j + 1 → slices_insertionSortCmpFunc_int.l0 (longFirst.cf l) k' (S.take (posGo l S x j) ++ x :: (S.drop (posGo l S x j) ++ R)) 0 n (wrap64 (i + 1)) = some Q) → slices_insertionSortCmpFunc_int.l1 (longFirst.cf l) k (S.take j ++ x :: (S.drop j ++ R)) 0 n i (j : Int) = some Q := by
  intro j
  induction j with
  | zero =>
    intro k hj hk hQ
    obtain ⟨k, rfl⟩ := succ_of hk
    simp only [slices_insertionSortCmpFunc_int.l1]
    rw [if_neg (by simp)]
    exact hQ k (by omega)
  | succ j ih =>
    intro k hj hk hQ
    obtain ⟨k, rfl⟩ := succ_of (show 0 < k by omega)
    have hw : wrap64 (((j + 1 : Nat) : Int) - 1) = (j : Int) := by rw [w64 (by omega) (by omega)]; omega
    have hmem : rd S (j : Int) ∈ S := by rw [rd_get S j (by omega)]; exact List.getElem_mem _
    have hr := hS _ hmem
    have he := W.each _ hr.1 hr.2
    have hxe := W.each _ hx.1 hx.2
    have hlen : (S.take (j + 1) ++ x :: (S.drop (j + 1) ++ R)).length = S.length + 1 + R.length := by
      simp [List.length_take, List.length_drop]
      omega
    have hcf : longFirst.cf l x (rd S (j : Int)) = some (ht l (rd S (j : Int)) - ht l x) := by
      unfold longFirst.cf
      rw [if_pos ⟨hx, hr⟩]
      congr 1
      exact w64 (by unfold ht at *; omega) (by unfold ht at *; omega)
    simp only [slices_insertionSortCmpFunc_int.l1, hw, hlen, at_pos S R x (j + 1) hj, before_pos S R x j hj, hcf, Option.bind_some, Int.toNat_natCast]
    rw [if_pos (by omega), if_pos (by omega), if_pos (by omega), if_pos (by omega), if_pos (by omega)]
    unfold posGo at hQ
    by_cases c : ht l (rd S (j : Int)) < ht l x
    · rw [if_pos c] at hQ
      rw [if_pos (by omega), rd_get S j (by omega), swap_step S R x j (by omega)]
      exact ih k (by omega) (by omega) (fun k' hk' => hQ k' (by omega))
    · rw [if_neg c] at hQ
      rw [if_neg (by omega)]
      exact hQ k (by omega)
theorem sort_l0 (l : List Int) (W : Pieces l) (d : Nat) : ∀ (k i : Nat) (S : List Int), l.length - i = d → i ≤ l.length → S.length = i → (∀ x ∈ S, 0 ≤ x ∧ x < (l.length : Int)) → 20 * d + 20 < k → slices_insertionSortCmpFunc_int.l0 (longFirst.cf l) k (S ++ (iota l.length).drop i) 0 (l.length : Int) (i : Int) = some (orderGo l d i S) := by
  have hl := W.len
  induction d with
  | zero =>
    intro k i S hd hi hSl hS hk
    obtain ⟨k, rfl⟩ := succ_of (show 0 < k by omega)
    simp only [slices_insertionSortCmpFunc_int.l0, lt_f (show l.length ≤ i by omega), if_false, orderGo]
    rw [List.drop_of_length_le (by rw [iota_len]; omega), List.append_nil]
  | succ d ih =>
    intro k i S hd hi hSl hS hk
    obtain ⟨k, rfl⟩ := succ_of (show 0 < k by omega)
    have hlt : i < l.length := by omega
    simp only [slices_insertionSortCmpFunc_int.l0, lt_t hlt, if_true, orderGo]
    rw [iota_drop l.length i hlt]
    have hR : ((iota l.length).drop (i + 1)).length = l.length - (i + 1) := by rw [List.length_drop, iota_len]
    have := sort_l1 l W S ((iota l.length).drop (i + 1)) hS (by omega) (i : Int) (by omega) (l.length : Int) (i : Int) (orderGo l d (i + 1) (insAt S (i : Int) (posGo l S (i : Int) S.length))) S.length k (Nat.le_refl _) (by omega) (fun k' hk' => by
      rw [w1 (show i ≤ 140737488355328 by omega)]
      have h2 := ih k' (i + 1) (insAt S (i : Int) (posGo l S (i : Int) S.length)) (by omega) (by omega) (by rw [insAt_len]; omega) (fun y hy => by
        rcases insAt_mem hy with h | h
        · rw [h]; omega
        · exact hS y h) (by omega)
      rw [insAt, List.append_assoc, List.cons_append] at h2
      exact h2)
    rw [List.take_length, List.drop_length, List.nil_append] at this
    subst hSl
    exact this
theorem sort_eq (l : List Int) (W : Pieces l) (k : Nat) (hk : 300 < k) : slices_insertionSortCmpFunc_int.f (longFirst.cf l) k (iota l.length) 0 ((iota l.length).length : Int) = some (orderGo l l.length 0 []) := by
  have hl := W.len
  rw [iota_len]
  unfold slices_insertionSortCmpFunc_int.f
  have hw : wrap64 (0 + 1) = ((1 : Nat) : Int) := w64 (by omega) (by omega)
  rw [hw]
  by_cases hn : l.length = 0
  · obtain ⟨k, rfl⟩ := succ_of (show 0 < k by omega)
    rw [hn]
    simp [slices_insertionSortCmpFunc_int.l0, orderGo, iota]
  · have h2 := sort_l0 l W (l.length - 1) k 1 [0] (by omega) (by omega) rfl (by simp; omega) (by omega)
    have e1 : [0] ++ (iota l.length).drop 1 = iota l.length := by
      have := iota_drop l.length 0 (by omega)
      rw [List.drop_zero] at this
      rw [this]
      rfl
    rw [e1] at h2
    rw [h2]
    obtain ⟨m, hm⟩ : ∃ m, l.length = m + 1 := ⟨l.length - 1, by omega⟩
    rw [hm]
    rfl
theorem orderGo_mem (l : List Int) : ∀ (d i : Nat) (S : List Int) (y : Int), y ∈ orderGo l d i S → y ∈ S ∨ ((i : Int) ≤ y ∧ y < (i + d : Nat))
  | 0, _, _, _, h => .inl h
  | d + 1, i, S, y, h => by
    rcases orderGo_mem l d (i + 1) _ y h with h | h
    · rcases insAt_mem h with h | h
      · subst h
        exact .inr (by omega)
      · exact .inl h
    · exact .inr (by omega)
/-- The sums on the bars, piece by piece; none where the numbers are not in order, or a bar has too much. -/
def sumsGo (bar : Int) (pieces : List Int) : List Int → Nat → List Int → Option (List Int)
  | [], _, s => some s
  | n :: r, i, s => if n < 0 ∨ n > (s.length : Int) then none else
      if wrap64 (rd (if n = (s.length : Int) then s ++ [0] else s) n + rd pieces (i : Int)) > bar then none
      else sumsGo bar pieces r (i + 1) ((if n = (s.length : Int) then s ++ [0] else s).set n.toNat (wrap64 (rd (if n = (s.length : Int) then s ++ [0] else s) n + rd pieces (i : Int))))
theorem drop_rd {l : List Int} {i : Nat} (h : i < l.length) : l.drop i = rd l (i : Int) :: l.drop (i + 1) := by
  rw [rd_get l i h]
  exact List.drop_eq_getElem_cons h
theorem sums_impl_l (bar : Int) (p l : List Int) (hp : p.length = l.length) (hl : l.length ≤ 1048576) (d : Nat) : ∀ (k i : Nat) (s : List Int), l.length - i = d → i ≤ l.length → s.length ≤ i → 2 * d < k → impl_barSums.l0 k bar p s l (l.length : Int) (i : Int) = some (match sumsGo bar p (l.drop i) i s with | none => ([], false) | some s' => (s', true)) := by
  induction d with
  | zero =>
    intro k i s hd hi hs hk
    obtain ⟨k, rfl⟩ := succ_of (show 0 < k by omega)
    simp only [impl_barSums.l0, lt_f (show l.length ≤ i by omega), if_false, List.drop_of_length_le (show l.length ≤ i by omega), sumsGo]
  | succ d ih =>
    intro k i s hd hi hs hk
    obtain ⟨k, rfl⟩ := succ_of (show 0 < k by omega)
    obtain ⟨k, rfl⟩ := succ_of (show 0 < k by omega)
    have hlt : i < l.length := by omega
    have hltp : i < p.length := by omega
    rw [drop_rd hlt]
    simp only [impl_barSums.l0, impl_barSums.j1, lt_t hlt, lt_t hltp, nn_t, if_true, w1 (show i ≤ 140737488355328 by omega), sumsGo]
    generalize rd l (i : Int) = n
    generalize rd p (i : Int) = v
    by_cases h1 : n < 0
    · simp [h1]
    · by_cases h2 : n > (s.length : Int)
      · simp [h1, h2]
      · by_cases h3 : n = (s.length : Int)
        · subst h3
          have h4 : (((s.length : Int)) < ((s ++ [0]).length : Int)) := by rw [List.length_append]; simp; omega
          have a1 : ((s.length : Int) < 0) = False := eq_false (by omega)
          have a2 : ((s.length : Int) > (s.length : Int)) = False := eq_false (by omega)
          simp only [a1, a2, if_false, decide_false, Bool.false_eq_true, if_true, false_or, Option.bind_some, show (s.length < 17592186044416) = True from eq_true (by omega), nn_t, eq_true h4]
          by_cases h5 : wrap64 (rd (s ++ [0]) (s.length : Int) + v) > bar
          · simp [h5]
          · simp only [h5, if_false]
            rw [ih k (i + 1) _ (by omega) (by omega) (by rw [List.length_set, List.length_append]; simp; omega) (by omega)]
        · simp only [h1, h2, if_false, decide_false, Bool.false_eq_true, h3, false_or, show (0 ≤ n) = True from eq_true (by omega), show (n < (s.length : Int)) = True from eq_true (by omega), if_true]
          by_cases h5 : wrap64 (rd s n + v) > bar
          · simp [h5]
          · simp only [h5, if_false]
            rw [ih k (i + 1) _ (by omega) (by omega) (by rw [List.length_set]; omega) (by omega)]
theorem sums_impl (bar : Int) (p l : List Int) (hl : l.length ≤ 1048576) (k : Nat) (hk : 2 * l.length < k) : impl_barSums.f k bar p l = some (if l.length = p.length then (match sumsGo bar p l 0 [] with | none => ([], false) | some s' => (s', true)) else ([], false)) := by
  unfold impl_barSums.f
  by_cases h : l.length = p.length
  · rw [if_pos (by omega), if_pos h]
    exact sums_impl_l bar p l h.symm hl l.length k 0 [] (by omega) (by omega) (by simp) hk
  · rw [if_neg (by omega), if_neg h]
theorem rd_map {f : Int → Int} {s : List Int} {n : Int} (h0 : 0 ≤ n) (h1 : n < (s.length : Int)) : rd (s.map f) n = f (rd s n) := by
  obtain ⟨m, rfl⟩ := Int.eq_ofNat_of_zero_le h0
  rw [rd_get _ _ (by rw [List.length_map]; omega), rd_get _ _ (by omega), List.getElem_map]
theorem rd_mem {s : List Int} {n : Int} (h0 : 0 ≤ n) (h1 : n < (s.length : Int)) : rd s n ∈ s := by
  obtain ⟨m, rfl⟩ := Int.eq_ofNat_of_zero_le h0
  rw [rd_get _ _ (by omega)]
  exact List.getElem_mem _
/-- What goes on: lengths grow, the numbers lie below, the sums stay from 0 to the bar. -/
theorem sumsGo_ok (bar : Int) (p : List Int) (hb : 1 ≤ bar ∧ bar ≤ 1000) (hp : ∀ x ∈ p, 1 ≤ x ∧ x ≤ bar) (r : List Int) : ∀ (i : Nat) (s s' : List Int), i + r.length ≤ p.length → (∀ x ∈ s, 0 ≤ x ∧ x ≤ bar) → sumsGo bar p r i s = some s' → s.length ≤ s'.length ∧ (∀ n ∈ r, 0 ≤ n ∧ n < (s'.length : Int)) ∧ ∀ x ∈ s', 0 ≤ x ∧ x ≤ bar := by
  induction r with
  | nil =>
    intro i s s' hi hs h
    simp only [sumsGo, Option.some.injEq] at h
    subst h
    exact ⟨Nat.le_refl _, by simp, hs⟩
  | cons n r ih =>
    intro i s s' hi hs h
    rw [List.length_cons] at hi
    simp only [sumsGo] at h
    by_cases h1 : n < 0 ∨ n > (s.length : Int)
    · rw [if_pos h1] at h; simp at h
    · rw [if_neg h1] at h
      have hpi := hp _ (rd_mem (s := p) (n := (i : Int)) (by omega) (by omega))
      generalize rd p (i : Int) = v at h hpi
      obtain ⟨s1, hs1⟩ : ∃ s1, (if n = (s.length : Int) then s ++ [0] else s) = s1 := ⟨_, rfl⟩
      rw [hs1] at h
      have hlen : s.length ≤ s1.length ∧ n < (s1.length : Int) := by
        rw [← hs1]; split
        · rw [List.length_append]; simp; omega
        · omega
      have hs1b : ∀ x ∈ s1, 0 ≤ x ∧ x ≤ bar := by
        intro x hx
        rw [← hs1] at hx
        split at hx
        · rcases List.mem_append.mp hx with hx | hx
          · exact hs x hx
          · simp at hx; omega
        · exact hs x hx
      have hx := hs1b _ (rd_mem (s := s1) (n := n) (by omega) hlen.2)
      rw [w64 (by omega) (by omega)] at h
      by_cases h2 : rd s1 n + v > bar
      · rw [if_pos h2] at h; simp at h
      · rw [if_neg h2] at h
        obtain ⟨g1, g2, g3⟩ := ih (i + 1) _ s' (by omega) (by
          intro x hx
          rcases List.mem_or_eq_of_mem_set hx with hx | hx
          · exact hs1b x hx
          · omega) h
        rw [List.length_set] at g1
        refine ⟨by omega, fun m hm => ?_, g3⟩
        rcases List.mem_cons.mp hm with rfl | hm
        · omega
        · exact g2 m hm
def barsOk (bar : Int) (l : List Int) : Bool := decide (1 ≤ bar ∧ bar ≤ 1000) && (decide (l.length ≤ 8) && l.all fun p => decide (1 ≤ p ∧ p ≤ bar))
theorem barsOk_impl (bar : Int) (l : List Int) : impl_BarsOk.f bar l = some (barsOk bar l) := rfl
theorem barsOk_facts {bar : Int} {l : List Int} (h : barsOk bar l = true) : (1 ≤ bar ∧ bar ≤ 1000) ∧ l.length ≤ 8 ∧ ∀ x ∈ l, 1 ≤ x ∧ x ≤ bar := by
  simp only [barsOk, Bool.and_eq_true, decide_eq_true_eq, List.all_eq_true] at h
  exact h
def planOk (bar : Int) (p l : List Int) : Bool := barsOk bar p && (decide (l.length = p.length) && (sumsGo bar p l 0 []).isSome)
theorem plan_impl (bar : Int) (p l : List Int) (hl : l.length ≤ 1048576) (k : Nat) (hk : 2 * l.length < k) : impl_BarPlanOk.f k bar p l = some (planOk bar p l) := by
  unfold impl_BarPlanOk.f planOk
  rw [sums_impl bar p l hl k hk]
  simp only [Option.bind_some, barsOk_impl]
  by_cases h : l.length = p.length
  · simp only [h, if_true, decide_true, Bool.true_and]
    cases sumsGo bar p l 0 [] <;> simp
  · simp [h]
theorem sumsGo_len (bar : Int) (p : List Int) (r : List Int) : ∀ (i : Nat) (s s' : List Int), sumsGo bar p r i s = some s' → s'.length ≤ s.length + r.length := by
  induction r with
  | nil =>
    intro i s s' h
    simp only [sumsGo, Option.some.injEq] at h
    subst h
    simp
  | cons n r ih =>
    intro i s s' h
    simp only [sumsGo] at h
    by_cases h1 : n < 0 ∨ n > (s.length : Int)
    · rw [if_pos h1] at h; simp at h
    · rw [if_neg h1] at h
      obtain ⟨s1, hs1⟩ : ∃ s1, (if n = (s.length : Int) then s ++ [0] else s) = s1 := ⟨_, rfl⟩
      have hlen : s1.length ≤ s.length + 1 := by
        rw [← hs1]; split
        · rw [List.length_append]; simp
        · omega
      rw [hs1] at h
      by_cases h2 : wrap64 (rd s1 n + rd p (i : Int)) > bar
      · rw [if_pos h2] at h; simp at h
      · rw [if_neg h2] at h
        have := ih _ _ _ h
        rw [List.length_set] at this
        rw [List.length_cons]
        omega
theorem snoc_set (l : List Int) (x y : Int) : (l ++ [x]).set l.length y = l ++ [y] := by simp [List.set_append]
def upd (su : List Int) (k : Nat) (p : Int) : List Int := if k < su.length then su.set k (rd su (k : Int) + p) else su ++ [p]
def sumAt (su : List Int) (k : Nat) : Int := if k < su.length then rd su (k : Int) else 0
def find (bar m : Int) : List Int → List Int → Option (List Int)
  | [], _ => some []
  | p :: t, su => (List.range (su.length + 1)).findSome? fun k : Nat => if (k : Int) < m ∧ sumAt su k + p ≤ bar then (find bar m t (upd su k p)).map ((k : Int) :: ·) else none
def findK (bar m p : Int) (t su : List Int) (k : Nat) : Option (List Int) := if (k : Int) < m ∧ sumAt su k + p ≤ bar then (find bar m t (upd su k p)).map ((k : Int) :: ·) else none
theorem find_cons (bar m p : Int) (t su : List Int) : find bar m (p :: t) su = ((List.range (su.length + 1)).drop 0).findSome? (findK bar m p t su) := rfl
theorem range_drop (n j : Nat) (h : j < n) : (List.range n).drop j = j :: (List.range n).drop (j + 1) := by
  rw [List.drop_eq_getElem_cons (by rw [List.length_range]; exact h), List.getElem_range]
theorem upd_old {su : List Int} {k : Nat} (h : k < su.length) (p : Int) : upd su k p = su.set k (rd su (k : Int) + p) := if_pos h
theorem upd_new (su : List Int) (p : Int) : upd su su.length p = su ++ [p] := if_neg (Nat.lt_irrefl _)
theorem sumAt_old {su : List Int} {k : Nat} (h : k < su.length) : sumAt su k = rd su (k : Int) := if_pos h
theorem sumAt_new (su : List Int) : sumAt su su.length = 0 := if_neg (Nat.lt_irrefl _)
theorem upd_len {su : List Int} {k : Nat} (h : k ≤ su.length) (p : Int) : (upd su k p).length = if k < su.length then su.length else su.length + 1 := by
  unfold upd
  split <;> simp
theorem upd_good {bar : Int} {su : List Int} {k : Nat} {p : Int} (h : ∀ x ∈ su, 1 ≤ x ∧ x ≤ bar) (hp : 1 ≤ p) (hf : sumAt su k + p ≤ bar) : ∀ x ∈ upd su k p, 1 ≤ x ∧ x ≤ bar := by
  intro x hx
  unfold upd at hx
  by_cases e : k < su.length
  · rw [if_pos e] at hx
    rcases List.mem_or_eq_of_mem_set hx with hx | hx
    · exact h x hx
    · have h2 := h _ (List.getElem_mem e)
      rw [sumAt_old e] at hf
      rw [rd_get _ _ e] at hx hf
      omega
  · rw [if_neg e, List.mem_append, List.mem_singleton] at hx
    rcases hx with hx | hx
    · exact h x hx
    · unfold sumAt at hf
      rw [if_neg e] at hf
      omega
theorem past_m {bar m p : Int} {t su : List Int} {j : Nat} (h : ¬ (j : Int) < m) (n : Nat) : ((List.range n).drop j).findSome? (findK bar m p t su) = none := by
  rw [List.findSome?_eq_none_iff]
  intro x hx
  obtain ⟨i, hi, rfl⟩ := List.getElem_of_mem hx
  rw [List.getElem_drop, List.getElem_range]
  unfold findK
  rw [if_neg (by omega)]
theorem find_len (bar m : Int) : ∀ (l su r : List Int), find bar m l su = some r → r.length = l.length
  | [], _, r, h => by
    obtain rfl := Option.some.inj (show some [] = some r from h)
    rfl
  | p :: t, su, r, h => by
    obtain ⟨k, _, hk⟩ := List.exists_of_findSome?_eq_some (show (List.range (su.length + 1)).findSome? (findK bar m p t su) = some r from h)
    unfold findK at hk
    split at hk
    · obtain ⟨r2, h2, rfl⟩ := Option.map_eq_some_iff.mp hk
      rw [List.length_cons, List.length_cons, find_len bar m t _ r2 h2]
    · exact absurd hk (by simp)
theorem find_within (bar m : Int) : ∀ (l su r : List Int), find bar m l su = some r → ∀ x ∈ r, 0 ≤ x ∧ x < m
  | [], _, r, h => by
    obtain rfl := Option.some.inj (show some [] = some r from h)
    simp
  | p :: t, su, r, h => by
    obtain ⟨k, _, hk⟩ := List.exists_of_findSome?_eq_some (show (List.range (su.length + 1)).findSome? (findK bar m p t su) = some r from h)
    unfold findK at hk
    split at hk
    · rename_i hc
      obtain ⟨r2, h2, rfl⟩ := Option.map_eq_some_iff.mp hk
      intro x hx
      rcases List.mem_cons.mp hx with hx | hx
      · omega
      · exact find_within bar m t _ r2 h2 x hx
    · exact absurd hk (by simp)
section
variable (bar m : Int) (ps : List Int)
structure PsOk (bar : Int) (ps : List Int) : Prop where
  bar_ok : 1 ≤ bar ∧ bar ≤ 1000
  len : ps.length ≤ 8
  each : ∀ x ∈ ps, 1 ≤ x ∧ x ≤ bar
def PutIs (bar m : Int) (ps : List Int) (K : Nat) (pl su : List Int) : Prop :=
  (∀ r, find bar m (ps.drop pl.length) su = some r → ∃ su', bbs.put K bar ps m pl su = some (true, pl ++ r, su')) ∧ (find bar m (ps.drop pl.length) su = none → bbs.put K bar ps m pl su = some (false, pl, su))
theorem impl_fin_step {p : Int} {pl su : List Int} (hg : ∀ x ∈ su, 1 ≤ x ∧ x ≤ bar) {j : Nat} (hj : j < su.length) (hl : su.length ≤ 8) (K : Nat) : bbs.fin (K + 1) bar ps m pl su p (j : Int) = bbs.lp K bar ps m pl su p ((j + 1 : Nat) : Int) := by
  have h2 := hg _ (List.getElem_mem hj)
  simp only [bbs.fin]
  rw [if_pos (by omega), rd_get su j hj, if_neg (by omega), w1 (by omega)]
theorem impl_lp (W : PsOk bar ps) {p : Int} {t pl su : List Int} (hd : ps.drop pl.length = p :: t) (hpl : pl.length < ps.length) (hsl : su.length ≤ pl.length) (hg : ∀ x ∈ su, 1 ≤ x ∧ x ≤ bar) (N : Nat)
    (ih : ∀ (pl' su' : List Int) (K : Nat), pl'.length = pl.length + 1 → su'.length ≤ pl'.length → (∀ x ∈ su', 1 ≤ x ∧ x ≤ bar) → N < K → PutIs bar m ps K pl' su') (d : Nat) : ∀ (j K : Nat), su.length - j = d → j ≤ su.length → N + 3 * d + 8 < K →
    (∀ r, ((List.range (su.length + 1)).drop j).findSome? (findK bar m p t su) = some r → ∃ su', bbs.lp K bar ps m pl su p (j : Int) = some (true, pl ++ r, su')) ∧ (((List.range (su.length + 1)).drop j).findSome? (findK bar m p t su) = none → bbs.lp K bar ps m pl su p (j : Int) = some (false, pl, su)) := by
  have hb := W.bar_ok
  have h8 := W.len
  have hp := W.each p (List.mem_of_mem_drop (hd ▸ List.mem_cons_self))
  have hd1 : ∀ x : Int, ps.drop (pl ++ [x]).length = t := fun x => by
    rw [List.length_append, List.length_singleton, ← List.drop_drop, hd]
    rfl
  induction d with
  | zero =>
    intro j K hd0 hj hK
    have ej : j = su.length := by omega
    subst ej
    obtain ⟨K, rfl⟩ := succ_of (show 0 < K by omega)
    by_cases c : (su.length : Int) < m
    · obtain ⟨K, rfl⟩ := succ_of (show 0 < K by omega)
      have hi := ih (pl ++ [(su.length : Int)]) (su ++ [p]) K (by simp) (by simp; omega) (fun x hx => by
        rcases List.mem_append.mp hx with hx | hx
        · exact hg x hx
        · rw [List.mem_singleton] at hx
          omega) (by omega)
      unfold PutIs at hi
      rw [hd1] at hi
      have hst : bbs.lp (K + 1 + 1) bar ps m pl su p (su.length : Int) = ((bbs.put K bar ps m (pl ++ [(su.length : Int)]) (su ++ [p])).bind fun t => if t.1 = true then some (true, t.2.1, t.2.2) else (if 0 < t.2.1.length ∧ (su.length : Int) < (t.2.2.length : Int) ∧ t.2.1.length < 1000 then bbs.fin K bar ps m (t.2.1.take (t.2.1.length - 1)) (t.2.2.set (su.length : Int).toNat (wrap64 (rd t.2.2 (su.length : Int) - p))) p (su.length : Int) else none)) := by
        simp only [bbs.lp]
        rw [if_pos (by omega), if_pos (by omega), if_pos c, if_pos trivial]
        simp only [bbs.st]
        rw [if_pos (by simp; omega), rd_get (su ++ [0]) su.length (by simp), List.getElem_append_right (Nat.le_refl _)]
        simp only [Nat.sub_self, List.getElem_cons_zero, Int.zero_add]
        rw [w64 (by omega) (by omega), if_pos (by omega), Int.toNat_natCast, snoc_set]
      have hG : ((List.range (su.length + 1)).drop su.length).findSome? (findK bar m p t su) = (find bar m t (su ++ [p])).map ((su.length : Int) :: ·) := by
        rw [range_drop _ _ (by omega), List.drop_of_length_le (by rw [List.length_range]; omega)]
        simp only [List.findSome?_cons, List.findSome?_nil, findK]
        rw [sumAt_new, upd_new, if_pos ⟨c, by omega⟩]
        cases find bar m t (su ++ [p]) <;> rfl
      rw [hG, hst]
      refine ⟨fun r hr => ?_, fun hn => ?_⟩
      · obtain ⟨r2, h2, rfl⟩ := Option.map_eq_some_iff.mp hr
        obtain ⟨su', h3⟩ := hi.1 r2 h2
        refine ⟨su', ?_⟩
        rw [h3]
        simp
      · have h2 := Option.map_eq_none_iff.mp hn
        rw [hi.2 h2]
        simp only [Option.bind_some, Bool.false_eq_true, if_false]
        rw [if_pos (by simp; omega)]
        obtain ⟨K, rfl⟩ := succ_of (show 0 < K by omega)
        simp only [bbs.fin]
        rw [rd_get (su ++ [p]) su.length (by simp), List.getElem_append_right (Nat.le_refl _)]
        simp only [Nat.sub_self, List.getElem_cons_zero, Int.sub_self]
        rw [w64 (by omega) (by omega), Int.toNat_natCast, snoc_set, if_pos (by simp; omega), rd_get (su ++ [0]) su.length (by simp), List.getElem_append_right (Nat.le_refl _)]
        simp
    · have h0 := past_m (bar := bar) (p := p) (t := t) (su := su) c (su.length + 1)
      rw [h0]
      refine ⟨fun r hr => absurd hr (by simp), fun _ => ?_⟩
      simp only [bbs.lp]
      rw [if_pos (by omega), if_pos (by omega), if_neg c]
  | succ d ihd =>
    intro j K hd0 hj hK
    have hlt : j < su.length := by omega
    have hsj := hg _ (List.getElem_mem hlt)
    obtain ⟨K, rfl⟩ := succ_of (show 0 < K by omega)
    by_cases c : (j : Int) < m
    · obtain ⟨K, rfl⟩ := succ_of (show 0 < K by omega)
      obtain ⟨K, rfl⟩ := succ_of (show 0 < K by omega)
      rw [range_drop _ _ (show j < su.length + 1 by omega), List.findSome?_cons]
      have hnext := ihd (j + 1) K (by omega) (by omega) (by omega)
      have hfin : bbs.fin (K + 1) bar ps m pl su p (j : Int) = bbs.lp K bar ps m pl su p ((j + 1 : Nat) : Int) := impl_fin_step bar m ps hg hlt (by omega) K
      have hlp : bbs.lp (K + 1 + 1 + 1) bar ps m pl su p (j : Int) = bbs.st (K + 1 + 1) bar ps m pl su p (j : Int) := by
        simp only [bbs.lp]
        rw [if_pos (by omega), if_pos (by omega), if_pos c, if_neg (by omega)]
      rw [hlp]
      simp only [bbs.st]
      rw [if_pos (by omega), rd_get su j hlt, w64 (by omega) (by omega)]
      by_cases c2 : su[j] + p ≤ bar
      · rw [if_pos c2, Int.toNat_natCast]
        have hup : upd su j p = su.set j (su[j] + p) := by rw [upd_old hlt, rd_get su j hlt]
        have hk : findK bar m p t su j = (find bar m t (su.set j (su[j] + p))).map ((j : Int) :: ·) := by
          unfold findK
          rw [sumAt_old hlt, rd_get su j hlt, if_pos ⟨c, c2⟩, hup]
        rw [hk]
        have hi := ih (pl ++ [(j : Int)]) (su.set j (su[j] + p)) (K + 1) (by simp) (by simp; omega) (by
          rw [← hup]
          exact upd_good hg hp.1 (by rw [sumAt_old hlt, rd_get su j hlt]; exact c2)) (by omega)
        unfold PutIs at hi
        rw [hd1] at hi
        cases hf : find bar m t (su.set j (su[j] + p)) with
        | some r2 =>
          obtain ⟨su', h3⟩ := hi.1 r2 hf
          refine ⟨fun r hr => ?_, fun hn => absurd hn (by simp)⟩
          obtain rfl := Option.some.inj hr
          refine ⟨su', ?_⟩
          rw [h3]
          simp
        | none =>
          rw [hi.2 hf]
          simp only [Option.map_none, Option.bind_some, Bool.false_eq_true, if_false]
          rw [if_pos (by simp; omega), rd_get _ j (by rw [List.length_set]; exact hlt), List.getElem_set_self, w64 (by omega) (by omega), List.set_set, show su[j] + p - p = su[j] by omega, List.set_getElem_self, show (pl ++ [(j : Int)]).take ((pl ++ [(j : Int)]).length - 1) = pl by simp, hfin]
          exact hnext
      · rw [if_neg c2]
        have hk : findK bar m p t su j = none := by
          unfold findK
          rw [sumAt_old hlt, rd_get su j hlt, if_neg (fun h => c2 h.2)]
        rw [hk, hfin]
        exact hnext
    · have h0 := past_m (bar := bar) (p := p) (t := t) (su := su) c (su.length + 1)
      rw [h0]
      refine ⟨fun r hr => absurd hr (by simp), fun _ => ?_⟩
      simp only [bbs.lp]
      rw [if_pos (by omega), if_pos (by omega), if_neg c]
theorem impl_put (W : PsOk bar ps) (n : Nat) : ∀ (pl su : List Int) (K : Nat), ps.length - pl.length = n → pl.length ≤ ps.length → su.length ≤ pl.length → (∀ x ∈ su, 1 ≤ x ∧ x ≤ bar) → 40 * n + 2 < K → PutIs bar m ps K pl su := by
  have h8 := W.len
  induction n with
  | zero =>
    intro pl su K hn hl hs hg hK
    obtain ⟨K, rfl⟩ := succ_of (show 0 < K by omega)
    unfold PutIs
    rw [List.drop_of_length_le (by omega)]
    refine ⟨fun r hr => ⟨su, ?_⟩, fun h => absurd h (by simp [find])⟩
    obtain rfl := Option.some.inj (show some [] = some r from hr)
    simp only [bbs.put]
    rw [if_pos (by omega), if_pos (by omega), List.append_nil]
  | succ n ih =>
    intro pl su K hn hl hs hg hK
    obtain ⟨K, rfl⟩ := succ_of (show 0 < K by omega)
    have hlt : pl.length < ps.length := by omega
    have hd := List.drop_eq_getElem_cons hlt
    have h := impl_lp bar m ps W hd hlt hs hg (40 * n + 2) (fun pl' su' K' h1 h2 h3 h4 => ih pl' su' K' (by omega) (by omega) h2 h3 h4) su.length 0 K (by omega) (by omega) (by omega)
    unfold PutIs
    rw [hd, find_cons]
    have hput : bbs.put (K + 1) bar ps m pl su = bbs.lp K bar ps m pl su ps[pl.length] ((0 : Nat) : Int) := by
      simp only [bbs.put]
      rw [if_pos (by omega), if_neg (by omega), if_pos hlt, rd_get ps pl.length hlt]
      rfl
    rw [hput]
    exact h
theorem sum_set (su : List Int) : ∀ (k : Nat) (h : k < su.length) (y : Int), (su.set k y).sum = su.sum - su[k] + y := by
  induction su with
  | nil => intro k h; simp at h
  | cons a l ih =>
    intro k h y
    cases k with
    | zero =>
      simp only [List.set_cons_zero, List.sum_cons, List.getElem_cons_zero]
      omega
    | succ k =>
      simp only [List.set_cons_succ, List.sum_cons, List.getElem_cons_succ]
      rw [ih k (by simpa using h) y]
      omega
theorem upd_sum {su : List Int} {k : Nat} (p : Int) : (upd su k p).sum = su.sum + p := by
  unfold upd
  split
  · rename_i e
    rw [sum_set su k e, rd_get su k e]
    omega
  · simp
theorem sum_le {bar : Int} : ∀ (su : List Int), (∀ x ∈ su, 1 ≤ x ∧ x ≤ bar) → 0 ≤ su.sum ∧ su.sum ≤ (su.length : Int) * bar
  | [], _ => by simp
  | a :: l, h => by
    have h1 := sum_le l (fun x hx => h x (List.mem_cons_of_mem _ hx))
    have h2 := h a List.mem_cons_self
    rw [List.sum_cons, List.length_cons]
    have h3 : ((l.length + 1 : Nat) : Int) * bar = (l.length : Int) * bar + bar := by rw [Int.natCast_add, Int.add_mul]; simp
    omega
theorem find_sum (M : Nat) (hm : m ≤ (M : Int)) (hb : 0 ≤ bar) : ∀ (l su r : List Int), (∀ x ∈ su, 1 ≤ x ∧ x ≤ bar) → (∀ x ∈ l, 1 ≤ x) → su.length ≤ M → find bar m l su = some r → su.sum + l.sum ≤ (M : Int) * bar
  | [], su, r, hg, _, hl, _ => by
    have h1 := sum_le su hg
    have h2 : (su.length : Int) * bar ≤ (M : Int) * bar := Int.mul_le_mul_of_nonneg_right (by omega) hb
    rw [List.sum_nil]
    omega
  | p :: t, su, r, hg, hp, hl, h => by
    obtain ⟨k, hk0, hk⟩ := List.exists_of_findSome?_eq_some (show (List.range (su.length + 1)).findSome? (findK bar m p t su) = some r from h)
    unfold findK at hk
    split at hk
    · rename_i hc
      obtain ⟨r2, h2, rfl⟩ := Option.map_eq_some_iff.mp hk
      rw [List.mem_range] at hk0
      have h3 := find_sum M hm hb t (upd su k p) r2 (upd_good hg (hp p List.mem_cons_self) hc.2) (fun x hx => hp x (List.mem_cons_of_mem _ hx)) (by rw [upd_len (by omega)]; split <;> omega) h2
      rw [upd_sum] at h3
      rw [List.sum_cons]
      omega
    · exact absurd hk (by simp)
theorem find_some (hb : 1 ≤ bar) : ∀ (l su : List Int), (∀ x ∈ l, 1 ≤ x ∧ x ≤ bar) → ((su.length + l.length : Nat) : Int) ≤ m → ∃ r, find bar m l su = some r
  | [], su, _, _ => ⟨[], rfl⟩
  | p :: t, su, hp, hl => by
    rw [List.length_cons] at hl
    obtain ⟨r, hr⟩ := find_some hb t (su ++ [p]) (fun x hx => hp x (List.mem_cons_of_mem _ hx)) (by rw [List.length_append, List.length_singleton]; omega)
    cases hf : find bar m (p :: t) su with
    | some r2 => exact ⟨r2, rfl⟩
    | none =>
      exfalso
      have h1 := List.findSome?_eq_none_iff.mp (show (List.range (su.length + 1)).findSome? (findK bar m p t su) = none from hf) su.length (by rw [List.mem_range]; omega)
      unfold findK at h1
      have := hp p List.mem_cons_self
      rw [sumAt_new, upd_new, if_pos ⟨by omega, by omega⟩, hr] at h1
      exact absurd h1 (by simp)
end
theorem bars_ps {bar : Int} {ps : List Int} (h : impl_BarsOk.f bar ps = some true) : PsOk bar ps := by
  unfold impl_BarsOk.f at h
  have h := Option.some.inj h
  simp only [Bool.and_eq_true, decide_eq_true_eq, List.all_eq_true] at h
  exact ⟨h.1, h.2.1, h.2.2⟩

/-! sums over lists of indices; what a plan lays onto each bar -/
def loadAt (ps pl o : List Int) (j : Int) : Int := (o.map fun i => if rd pl i = j then rd ps i else 0).sum
def sumTo (m : Nat) (h : Nat → Int) : Int := ((List.range m).map h).sum
theorem sumTo_succ (m : Nat) (h : Nat → Int) : sumTo (m + 1) h = sumTo m h + h m := by simp [sumTo, List.range_succ]
theorem sumTo_congr {m : Nat} {h g : Nat → Int} (e : ∀ j, j < m → h j = g j) : sumTo m h = sumTo m g := by
  unfold sumTo
  congr 1
  exact List.map_congr_left fun j hj => e j (List.mem_range.mp hj)
theorem sumTo_add (m : Nat) (h g : Nat → Int) : sumTo m (fun j => h j + g j) = sumTo m h + sumTo m g := by
  induction m with
  | zero => rfl
  | succ m ih => rw [sumTo_succ, sumTo_succ, sumTo_succ, ih]; omega
theorem sumTo_le {m : Nat} {h g : Nat → Int} (e : ∀ j, j < m → h j ≤ g j) : sumTo m h ≤ sumTo m g := by
  induction m with
  | zero => exact Int.le_refl _
  | succ m ih =>
    rw [sumTo_succ, sumTo_succ]
    have := ih fun j hj => e j (by omega)
    have := e m (by omega)
    omega
theorem sumTo_const (m : Nat) (c : Int) : sumTo m (fun _ => c) = (m : Int) * c := by
  induction m with
  | zero => simp [sumTo]
  | succ m ih =>
    rw [sumTo_succ, ih, Int.natCast_succ, Int.add_mul]
    omega
theorem sumTo_one (m : Nat) (x v : Int) (hx : 0 ≤ x) : sumTo m (fun j => if x = (j : Int) then v else 0) = if x < (m : Int) then v else 0 := by
  induction m with
  | zero => rw [if_neg (by omega)]; rfl
  | succ m ih =>
    rw [sumTo_succ, ih]
    by_cases h1 : x < (m : Int)
    · rw [if_pos h1, if_neg (by omega), if_pos (by omega)]; omega
    · by_cases h2 : x = (m : Int)
      · rw [if_neg h1, if_pos h2, if_pos (by omega)]; omega
      · rw [if_neg h1, if_neg h2, if_neg (by omega)]; rfl
theorem split_sum (f g : Int → Int) (m : Nat) : ∀ o : List Int, (∀ i ∈ o, 0 ≤ g i) → (o.map fun i => if g i < (m : Int) then f i else 0).sum = sumTo m (fun j => (o.map fun i => if g i = (j : Int) then f i else 0).sum)
  | [], _ => by
    have := sumTo_const m 0
    simp only [List.map_nil, List.sum_nil]
    rw [this]
    simp
  | i :: o, h => by
    have := split_sum f g m o fun x hx => h x (by simp [hx])
    simp only [List.map_cons, List.sum_cons]
    rw [sumTo_add, sumTo_one m (g i) (f i) (h i (by simp)), this]
theorem sum_nonneg' (F : Int → Int) : ∀ o : List Int, (∀ i ∈ o, 0 ≤ F i) → 0 ≤ (o.map F).sum
  | [], _ => by simp
  | i :: o, h => by
    have := sum_nonneg' F o fun x hx => h x (by simp [hx])
    have := h i (by simp)
    simp only [List.map_cons, List.sum_cons]
    omega
theorem sum_le' (F G : Int → Int) : ∀ o : List Int, (∀ i ∈ o, F i ≤ G i) → (o.map F).sum ≤ (o.map G).sum
  | [], _ => by simp
  | i :: o, h => by
    have := sum_le' F G o fun x hx => h x (by simp [hx])
    have := h i (by simp)
    simp only [List.map_cons, List.sum_cons]
    omega
theorem sum_add' (F G : Int → Int) : ∀ o : List Int, (o.map fun i => F i + G i).sum = (o.map F).sum + (o.map G).sum
  | [] => by simp
  | i :: o => by
    have := sum_add' F G o
    simp only [List.map_cons, List.sum_cons]
    omega
theorem sum_congr' {F G : Int → Int} {o : List Int} (h : ∀ i ∈ o, F i = G i) : (o.map F).sum = (o.map G).sum := by
  rw [List.map_congr_left h]
/-- Fewer indices, less of the sum. -/
theorem sum_sub (F : Int → Int) : ∀ (E o : List Int), E.Pairwise (· ≠ ·) → (∀ i ∈ E, i ∈ o) → (∀ i ∈ o, 0 ≤ F i) → (E.map F).sum ≤ (o.map F).sum
  | [], o, _, _, h => by simpa using sum_nonneg' F o h
  | e :: E, o, hn, hs, h => by
    obtain ⟨s, t, rfl⟩ := List.append_of_mem (hs e (by simp))
    rw [List.pairwise_cons] at hn
    have := sum_sub F E (s ++ t) hn.2 (fun i hi => by
      have := hs i (by simp [hi])
      rw [List.mem_append, List.mem_cons] at this
      rw [List.mem_append]
      rcases this with h1 | rfl | h1
      · exact .inl h1
      · exact absurd rfl (hn.1 i hi)
      · exact .inr h1) (fun i hi => h i (by
        rw [List.mem_append] at hi
        rw [List.mem_append, List.mem_cons]
        rcases hi with h1 | h1
        · exact .inl h1
        · exact .inr (.inr h1)))
    simp only [List.map_append, List.map_cons, List.sum_append, List.sum_cons] at this ⊢
    omega
theorem len_sub {E o : List Int} (hn : E.Pairwise (· ≠ ·)) (hs : ∀ i ∈ E, i ∈ o) : E.length ≤ o.length := by
  have h1 := sum_sub (fun _ => 1) E o hn hs (fun _ _ => by omega)
  have h2 : ∀ l : List Int, (l.map fun _ => (1 : Int)).sum = (l.length : Int) := fun l => by
    induction l with
    | nil => rfl
    | cons a l ih => simp only [List.map_cons, List.sum_cons, List.length_cons, ih]; omega
  rw [h2, h2] at h1
  omega
/-- Pieces on bars by a rule of which each later piece had no room on the earlier bars. -/
structure Tight (bar : Int) (ps o pl : List Int) (S : Nat) : Prop where
  nd : o.Pairwise (· ≠ ·)
  pos : ∀ i ∈ o, 1 ≤ rd ps i
  on : ∀ i ∈ o, 0 ≤ rd pl i ∧ rd pl i < (S : Int)
  full : ∀ i ∈ o, ∀ j : Nat, (j : Int) < rd pl i → bar < loadAt ps pl o (j : Int) + rd ps i
/-- A plan that uses so many bars. -/
structure Plan (bar : Int) (ps o c : List Int) (n : Nat) : Prop where
  on : ∀ i ∈ o, 0 ≤ rd c i ∧ rd c i < (n : Int)
  fits : ∀ j : Nat, j < n → loadAt ps c o (j : Int) ≤ bar
theorem plan_total {bar : Int} {ps o c : List Int} {n : Nat} (P : Plan bar ps o c n) : (o.map fun i => rd ps i).sum ≤ (n : Int) * bar := by
  have h := split_sum (fun i => rd ps i) (fun i => rd c i) n o fun i hi => (P.on i hi).1
  have e : (o.map fun i => if rd c i < (n : Int) then rd ps i else 0).sum = (o.map fun i => rd ps i).sum := sum_congr' fun i hi => if_pos (P.on i hi).2
  rw [← e, h, ← sumTo_const]
  exact sumTo_le fun j hj => P.fits j hj
theorem two_on {ps o c : List Int} {a b : Int} (hpos : ∀ i ∈ o, 1 ≤ rd ps i) (ha : a ∈ o) (hb : b ∈ o) (hne : a ≠ b) (j : Int) (h1 : rd c a = j) (h2 : rd c b = j) : rd ps a + rd ps b ≤ loadAt ps c o j := by
  have := sum_sub (fun i => if rd c i = j then rd ps i else 0) [a, b] o (by simp [hne]) (by simp [ha, hb]) (fun i hi => by
    have := hpos i hi
    show 0 ≤ if rd c i = j then rd ps i else 0
    split <;> omega)
  simp only [List.map_cons, List.map_nil, List.sum_cons, List.sum_nil, h1, h2, if_true] at this
  unfold loadAt
  omega
theorem one_on {ps o c : List Int} {a : Int} (hpos : ∀ i ∈ o, 1 ≤ rd ps i) (ha : a ∈ o) (j : Int) (h1 : rd c a = j) : rd ps a ≤ loadAt ps c o j := by
  have := sum_sub (fun i => if rd c i = j then rd ps i else 0) [a] o (by simp) (by simp [ha]) (fun i hi => by
    have := hpos i hi
    show 0 ≤ if rd c i = j then rd ps i else 0
    split <;> omega)
  simp only [List.map_cons, List.map_nil, List.sum_cons, List.sum_nil, h1, if_true] at this
  unfold loadAt
  omega
/-- More pieces than bars, of which no two go onto one bar: no plan. -/
theorem no_plan {bar : Int} {ps o c : List Int} {n : Nat} (hpos : ∀ i ∈ o, 1 ≤ rd ps i) (P : Plan bar ps o c n) (X : List Int) (hX : X.Pairwise (· ≠ ·)) (hs : ∀ i ∈ X, i ∈ o) (hl : n < X.length) (hc : ∀ a ∈ X, ∀ b ∈ X, a ≠ b → bar < rd ps a + rd ps b) : False := by
  have hd : (X.map fun i => rd c i).Pairwise (· ≠ ·) := by
    rw [List.pairwise_map]
    refine List.Pairwise.imp_of_mem ?_ hX
    intro a b ha hb hne e
    obtain ⟨h0, h1⟩ := P.on a (hs a ha)
    have h2 := two_on hpos (hs a ha) (hs b hb) hne (rd c a) rfl e.symm
    have h3 := P.fits (rd c a).toNat (by omega)
    rw [Int.toNat_of_nonneg h0] at h3
    have := hc a ha b hb hne
    omega
  have hm : ∀ z ∈ X.map fun i => rd c i, z ∈ (List.range n).map fun j : Nat => (j : Int) := by
    intro z hz
    obtain ⟨i, hi, rfl⟩ := List.mem_map.mp hz
    have := P.on i (hs i hi)
    exact List.mem_map.mpr ⟨(rd c i).toNat, List.mem_range.mpr (by omega), by omega⟩
  have := len_sub hd hm
  simp at this
  omega
/-- As many pieces behind the first n bars as there are bars: too much in all. -/
theorem too_much {bar : Int} {ps o pl : List Int} {S n : Nat} (T : Tight bar ps o pl S) (E : List Int) (hE : E.Pairwise (· ≠ ·)) (hs : ∀ i ∈ E, i ∈ o) (hb : ∀ i ∈ E, (n : Int) ≤ rd pl i) (hl : n ≤ E.length) (hn : 0 < n) (ht : (o.map fun i => rd ps i).sum ≤ (n : Int) * bar) : False := by
  have key : ∀ (m : Nat) (E : List Int), E.length = m → m ≤ n → (∀ i ∈ E, i ∈ o) → (∀ i ∈ E, (n : Int) ≤ rd pl i) → (m : Int) * (bar + 1) ≤ sumTo m (fun j => loadAt ps pl o (j : Int)) + (E.map fun i => rd ps i).sum := by
    intro m
    induction m with
    | zero => intro E hl _ _ _; rw [List.eq_nil_of_length_eq_zero hl]; simp [sumTo]
    | succ m ih =>
      intro E hl hm h1 h2
      cases E with
      | nil => simp at hl
      | cons e E =>
        have h3 := ih E (by simpa using hl) (by omega) (fun i hi => h1 i (by simp [hi])) (fun i hi => h2 i (by simp [hi]))
        have h4 := T.full e (h1 e (by simp)) m (by have := h2 e (by simp); omega)
        rw [sumTo_succ, List.map_cons, List.sum_cons, Int.natCast_succ, Int.add_mul]
        omega
  have h1 := key n (E.take n) (by rw [List.length_take]; omega) (Nat.le_refl _) (fun i hi => hs i (List.mem_of_mem_take hi)) (fun i hi => hb i (List.mem_of_mem_take hi))
  have h2 := split_sum (fun i => rd ps i) (fun i => rd pl i) n o fun i hi => (T.on i hi).1
  have h3 := sum_sub (fun i => if rd pl i < (n : Int) then 0 else rd ps i) (E.take n) o (hE.sublist (List.take_sublist _ _)) (fun i hi => hs i (List.mem_of_mem_take hi)) (fun i hi => by
    have := T.pos i hi
    show 0 ≤ if rd pl i < (n : Int) then 0 else rd ps i
    split <;> omega)
  have h4 : ((E.take n).map fun i => if rd pl i < (n : Int) then 0 else rd ps i).sum = ((E.take n).map fun i => rd ps i).sum := sum_congr' fun i hi => if_neg (by have := hb i (List.mem_of_mem_take hi); omega)
  have h5 := sum_add' (fun i => if rd pl i < (n : Int) then rd ps i else 0) (fun i => if rd pl i < (n : Int) then 0 else rd ps i) o
  have h6 : (o.map fun i => (if rd pl i < (n : Int) then rd ps i else 0) + (if rd pl i < (n : Int) then 0 else rd ps i)).sum = (o.map fun i => rd ps i).sum := sum_congr' fun i _ => by split <;> omega
  have h7 : (n : Int) * (bar + 1) = (n : Int) * bar + n := by rw [Int.mul_add]; omega
  have h8 : sumTo n (fun j => loadAt ps pl o (j : Int)) = sumTo n (fun j => (o.map fun i => if rd pl i = (j : Int) then rd ps i else 0).sum) := rfl
  rw [h8] at h1
  omega

/-- Each bar has a first piece; in falling order none behind it is longer. -/
structure Heads (ps o pl : List Int) (S : Nat) (hd : Nat → Int) : Prop where
  mem : ∀ j, j < S → hd j ∈ o
  at_ : ∀ j, j < S → rd pl (hd j) = (j : Int)
def Falls (ps o pl : List Int) (S : Nat) (hd : Nat → Int) : Prop := ∀ i ∈ o, ∀ j : Nat, j < S → (j : Int) ≤ rd pl i → rd ps i ≤ rd ps (hd j)
theorem heads_ne {ps o pl : List Int} {S : Nat} {hd : Nat → Int} (H : Heads ps o pl S hd) {a b : Nat} (ha : a < S) (hb : b < S) (h : a ≠ b) : hd a ≠ hd b := fun e => by
  have h1 := H.at_ a ha
  have h2 := H.at_ b hb
  rw [e] at h1
  omega
theorem heads_nd {ps o pl : List Int} {S : Nat} {hd : Nat → Int} (H : Heads ps o pl S hd) (a n : Nat) (hn : a + n ≤ S) : ((List.range n).map fun j => hd (a + j)).Pairwise (· ≠ ·) := by
  rw [List.pairwise_map]
  refine List.Pairwise.imp_of_mem ?_ List.nodup_range
  intro x y hx hy hne
  rw [List.mem_range] at hx hy
  exact heads_ne H (by omega) (by omega) (by omega)
theorem heads_in {ps o pl : List Int} {S : Nat} {hd : Nat → Int} (H : Heads ps o pl S hd) (a n : Nat) (hn : a + n ≤ S) : ∀ i ∈ (List.range n).map fun j => hd (a + j), ∃ j, a ≤ j ∧ j < a + n ∧ i = hd j := by
  intro i hi
  obtain ⟨j, hj, rfl⟩ := List.mem_map.mp hi
  rw [List.mem_range] at hj
  exact ⟨a + j, by omega, by omega, rfl⟩
/-- The first n + 1 heads conflict two by two where the first n bars hold no more than n pieces. -/
theorem few_conflict {bar : Int} {ps o pl : List Int} {S n : Nat} {hd : Nat → Int} (T : Tight bar ps o pl S) (H : Heads ps o pl S hd) (F : Falls ps o pl S hd) (hS : n < S) (hf : (o.filter fun i => decide (rd pl i < (n : Int))).length ≤ n) {c : List Int} (P : Plan bar ps o c n) : False := by
  have hone : ∀ j, j < n → loadAt ps pl o (j : Int) = rd ps (hd j) := by
    intro j hj
    -- all pieces of the first n bars are heads
    have hall : ∀ i ∈ o, rd pl i = (j : Int) → i = hd j := by
      intro i hi e
      refine Classical.byContradiction fun hne => ?_
      have h1 : ((List.range n).map fun q => hd (0 + q)).Pairwise (· ≠ ·) := heads_nd H 0 n (by omega)
      have h2 : (i :: (List.range n).map fun q => hd (0 + q)).Pairwise (· ≠ ·) := by
        rw [List.pairwise_cons]
        refine ⟨fun z hz => ?_, h1⟩
        obtain ⟨q, _, hq, rfl⟩ := heads_in H 0 n (by omega) z hz
        intro e2
        have h3 := H.at_ q (by omega)
        rw [← e2, e] at h3
        have : q = j := by omega
        subst this
        exact hne e2
      have h4 := len_sub (o := o.filter fun i => decide (rd pl i < (n : Int))) h2 (fun z hz => by
        rw [List.mem_filter, decide_eq_true_eq]
        rcases List.mem_cons.mp hz with rfl | hz
        · exact ⟨hi, by omega⟩
        · obtain ⟨q, _, hq, rfl⟩ := heads_in H 0 n (by omega) z hz
          exact ⟨H.mem q (by omega), by rw [H.at_ q (by omega)]; omega⟩)
      simp at h4
      omega
    unfold loadAt
    have h1 : (o.map fun i => if rd pl i = (j : Int) then rd ps i else 0).sum ≤ ((o.filter fun i => decide (rd pl i = (j : Int))).map fun i => rd ps i).sum := by
      clear hall hf P T F H
      induction o with
      | nil => simp
      | cons i o ih =>
        by_cases e : rd pl i = (j : Int)
        · simp only [List.map_cons, List.sum_cons, e, if_true, List.filter_cons, decide_true]
          omega
        · simp only [List.map_cons, List.sum_cons, e, if_false, List.filter_cons, decide_false, Bool.false_eq_true]
          omega
    have h2 := sum_sub (fun i => rd ps i) (o.filter fun i => decide (rd pl i = (j : Int))) [hd j] (T.nd.sublist List.filter_sublist) (fun i hi => by
      rw [List.mem_filter, decide_eq_true_eq] at hi
      rw [List.mem_singleton]
      exact hall i hi.1 hi.2) (fun i hi => by
      rw [List.mem_singleton] at hi
      subst hi
      have := T.pos _ (H.mem j (by omega))
      show 0 ≤ rd ps _
      omega)
    have h3 := one_on T.pos (H.mem j (by omega)) (j : Int) (H.at_ j (by omega))
    unfold loadAt at h3
    simp only [List.map_cons, List.map_nil, List.sum_cons, List.sum_nil] at h2
    omega
  have hcon : ∀ a b : Nat, a < b → b ≤ n → bar < rd ps (hd a) + rd ps (hd b) := by
    intro a b hab hb
    have h1 := T.full (hd b) (H.mem b (by omega)) a (by rw [H.at_ b (by omega)]; omega)
    rw [hone a (by omega)] at h1
    exact h1
  refine no_plan T.pos P ((List.range (n + 1)).map fun j => hd (0 + j)) (heads_nd H 0 (n + 1) (by omega)) (fun i hi => ?_) (by simp) (fun a ha b hb hne => ?_)
  · obtain ⟨j, _, hj, rfl⟩ := heads_in H 0 (n + 1) (by omega) i hi
    exact H.mem j (by omega)
  · obtain ⟨x, _, hx, rfl⟩ := heads_in H 0 (n + 1) (by omega) a ha
    obtain ⟨y, _, hy, rfl⟩ := heads_in H 0 (n + 1) (by omega) b hb
    rcases Nat.lt_trichotomy x y with h | h | h
    · exact hcon x y h (by omega)
    · subst h; exact absurd rfl hne
    · have := hcon y x h (by omega)
      omega
/-- Two bars behind the first n, and no more than two pieces on them: the heads up to there are longer than half a bar. -/
theorem two_conflict {bar : Int} {ps o pl : List Int} {S n : Nat} {hd : Nat → Int} (T : Tight bar ps o pl S) (H : Heads ps o pl S hd) (F : Falls ps o pl S hd) (hS : n + 2 ≤ S) (hf : (o.filter fun i => decide ((n : Int) ≤ rd pl i)).length ≤ 2) {c : List Int} (P : Plan bar ps o c n) : False := by
  have hx := H.mem n (by omega)
  have hy := H.mem (n + 1) (by omega)
  have hxa := H.at_ n (by omega)
  have hya := H.at_ (n + 1) (by omega)
  have hne : hd n ≠ hd (n + 1) := heads_ne H (by omega) (by omega) (by omega)
  have hload : loadAt ps pl o (n : Int) ≤ rd ps (hd n) := by
    have hall : ∀ i ∈ o, rd pl i = (n : Int) → i = hd n := by
      intro i hi e
      refine Classical.byContradiction fun h => ?_
      have h4 := len_sub (E := [i, hd n, hd (n + 1)]) (o := o.filter fun i => decide ((n : Int) ≤ rd pl i)) (by
        simp only [List.pairwise_cons, List.mem_cons, List.not_mem_nil, or_false, forall_eq_or_imp, forall_eq, false_implies, implies_true, List.Pairwise.nil, and_true]
        refine ⟨⟨h, fun e2 => ?_⟩, hne⟩
        rw [e2, hya] at e
        omega) (fun z hz => by
        rw [List.mem_filter, decide_eq_true_eq]
        simp only [List.mem_cons, List.not_mem_nil, or_false] at hz
        rcases hz with rfl | rfl | rfl
        · exact ⟨hi, by omega⟩
        · exact ⟨hx, by omega⟩
        · exact ⟨hy, by omega⟩)
      simp only [List.length_cons, List.length_nil] at h4
      omega
    unfold loadAt
    have h1 : (o.map fun i => if rd pl i = (n : Int) then rd ps i else 0).sum ≤ ((o.filter fun i => decide (rd pl i = (n : Int))).map fun i => rd ps i).sum := by
      clear hall hf P T F H hx hy
      induction o with
      | nil => simp
      | cons i o ih =>
        by_cases e : rd pl i = (n : Int)
        · simp only [List.map_cons, List.sum_cons, e, if_true, List.filter_cons, decide_true]
          omega
        · simp only [List.map_cons, List.sum_cons, e, if_false, List.filter_cons, decide_false, Bool.false_eq_true]
          omega
    have h2 := sum_sub (fun i => rd ps i) (o.filter fun i => decide (rd pl i = (n : Int))) [hd n] (T.nd.sublist List.filter_sublist) (fun i hi => by
      rw [List.mem_filter, decide_eq_true_eq] at hi
      rw [List.mem_singleton]
      exact hall i hi.1 hi.2) (fun i hi => by
      rw [List.mem_singleton] at hi
      subst hi
      have := T.pos _ hx
      show 0 ≤ rd ps _
      omega)
    simp only [List.map_cons, List.map_nil, List.sum_cons, List.sum_nil] at h2
    omega
  have h1 := T.full (hd (n + 1)) hy n (by rw [hya]; omega)
  have h2 := F (hd (n + 1)) hy n (by omega) (by rw [hya]; omega)
  refine no_plan T.pos P ((List.range (n + 1)).map fun j => hd (0 + j)) (heads_nd H 0 (n + 1) (by omega)) (fun i hi => ?_) (by simp) (fun a ha b hb hne => ?_)
  · obtain ⟨j, _, hj, rfl⟩ := heads_in H 0 (n + 1) (by omega) i hi
    exact H.mem j (by omega)
  · obtain ⟨x, _, hx', rfl⟩ := heads_in H 0 (n + 1) (by omega) a ha
    obtain ⟨y, _, hy', rfl⟩ := heads_in H 0 (n + 1) (by omega) b hb
    have h3 := F (hd n) hx x (by omega) (by rw [hxa]; omega)
    have h4 := F (hd n) hx y (by omega) (by rw [hxa]; omega)
    omega
/-- Longest pieces first, up to seven pieces: nine times its bars are no more than eleven times any plan's and six. -/
theorem long_bound {bar : Int} {ps o pl : List Int} {S n : Nat} {hd : Nat → Int} (T : Tight bar ps o pl S) (H : Heads ps o pl S hd) (F : Falls ps o pl S hd) {c : List Int} (P : Plan bar ps o c n) (h7 : o.length ≤ 7) : 9 * S ≤ 11 * n + 6 := by
  have ht := plan_total P
  have hSo : S ≤ o.length := by
    have := len_sub (heads_nd H 0 S (by omega)) (o := o) (fun i hi => by
      obtain ⟨j, _, hj, rfl⟩ := heads_in H 0 S (by omega) i hi
      exact H.mem j (by omega))
    simpa using this
  have hE : ∀ m, n + m ≤ S → m ≤ (o.filter fun i => decide ((n : Int) ≤ rd pl i)).length := by
    intro m hm
    have := len_sub (heads_nd H n m hm) (o := o.filter fun i => decide ((n : Int) ≤ rd pl i)) (fun i hi => by
      obtain ⟨j, h1, hj, rfl⟩ := heads_in H n m hm i hi
      rw [List.mem_filter, decide_eq_true_eq]
      exact ⟨H.mem j (by omega), by rw [H.at_ j (by omega)]; omega⟩)
    simpa using this
  have hsum : (o.filter fun i => decide ((n : Int) ≤ rd pl i)).length + (o.filter fun i => decide (rd pl i < (n : Int))).length = o.length := by
    clear hE hSo ht T H F P h7
    induction o with
    | nil => rfl
    | cons i o ih =>
      by_cases e : (n : Int) ≤ rd pl i
      · have e2 : ¬ rd pl i < (n : Int) := by omega
        simp only [List.filter_cons, e, e2, decide_true, decide_false, if_true, Bool.false_eq_true, if_false, List.length_cons]
        omega
      · have e2 : rd pl i < (n : Int) := by omega
        simp only [List.filter_cons, e, e2, decide_true, decide_false, if_true, Bool.false_eq_true, if_false, List.length_cons]
        omega
  have hA : 0 < n → ¬ n ≤ (o.filter fun i => decide ((n : Int) ≤ rd pl i)).length := fun h0 h => too_much T _ (T.nd.sublist List.filter_sublist) (fun i hi => (List.mem_filter.mp hi).1) (fun i hi => of_decide_eq_true (List.mem_filter.mp hi).2) h h0 ht
  have hB : n < S → ¬ (o.filter fun i => decide (rd pl i < (n : Int))).length ≤ n := fun h1 h => few_conflict T H F h1 h P
  have hC : n + 2 ≤ S → ¬ (o.filter fun i => decide ((n : Int) ≤ rd pl i)).length ≤ 2 := fun h1 h => two_conflict T H F h1 h P
  have h0 : n = 0 → S = 0 := fun h => by
    cases o with
    | nil => simpa using hSo
    | cons i o =>
      have := P.on i (by simp)
      omega
  have hE1 := hE 1
  have hE2 := hE 2
  have hE3 := hE 3
  omega
/-- Piece by piece onto the first bar with room: never more than twice the bars that all pieces need at least. -/
theorem first_bound {bar : Int} {ps o pl : List Int} {S : Nat} {hd : Nat → Int} (T : Tight bar ps o pl S) (H : Heads ps o pl S hd) (hb : 1 ≤ bar) (low : Int) (hl : (o.map fun i => rd ps i).sum ≤ low * bar) : (S : Int) ≤ 2 * low := by
  have h := split_sum (fun i => rd ps i) (fun i => rd pl i) S o fun i hi => (T.on i hi).1
  have e : (o.map fun i => if rd pl i < (S : Int) then rd ps i else 0).sum = (o.map fun i => rd ps i).sum := sum_congr' fun i hi => if_pos (T.on i hi).2
  rw [e] at h
  have h2 : ∀ j, j + 1 < S → bar + 1 ≤ loadAt ps pl o (j : Int) + loadAt ps pl o ((j + 1 : Nat) : Int) := by
    intro j hj
    have h1 := T.full (hd (j + 1)) (H.mem (j + 1) hj) j (by rw [H.at_ (j + 1) hj]; omega)
    have h2 := one_on T.pos (H.mem (j + 1) hj) ((j + 1 : Nat) : Int) (H.at_ (j + 1) hj)
    omega
  have h3 : ∀ m : Nat, 2 * m ≤ S → (m : Int) * (bar + 1) ≤ sumTo (2 * m) (fun j => loadAt ps pl o (j : Int)) := by
    intro m
    induction m with
    | zero => intro _; simp [sumTo]
    | succ m ih =>
      intro hm
      have := ih (by omega)
      have := h2 (2 * m) (by omega)
      rw [show 2 * (m + 1) = 2 * m + 1 + 1 by omega, sumTo_succ, sumTo_succ, Int.natCast_succ, Int.add_mul]
      omega
  have hmul : ∀ m : Nat, low ≤ (m : Int) → low * bar ≤ (m : Int) * bar := fun m hm => Int.mul_le_mul_of_nonneg_right hm (by omega)
  have hdist : ∀ m : Nat, (m : Int) * (bar + 1) = (m : Int) * bar + m := fun m => by rw [Int.mul_add]; omega
  refine Classical.byContradiction fun hc => ?_
  by_cases hp : S % 2 = 0
  · have a1 := h3 (S / 2) (by omega)
    rw [show 2 * (S / 2) = S by omega] at a1
    have a2 := hmul (S / 2) (by omega)
    have a3 := hdist (S / 2)
    have h' : sumTo S (fun j => loadAt ps pl o (j : Int)) = (o.map fun i => rd ps i).sum := h.symm
    by_cases hz : S = 0
    · subst hz
      have : low < 0 := by omega
      have h4 : (o.map fun i => rd ps i).sum = 0 := by rw [h]; rfl
      have h5 : low * bar ≤ (-1) * bar := Int.mul_le_mul_of_nonneg_right (by omega) (by omega)
      omega
    · omega
  · have a1 := h3 (S / 2) (by omega)
    have a2 := hmul (S / 2) (by omega)
    have a3 := hdist (S / 2)
    have h' : sumTo (2 * (S / 2) + 1) (fun j => loadAt ps pl o (j : Int)) = (o.map fun i => rd ps i).sum := by
      rw [show 2 * (S / 2) + 1 = S by omega]
      exact h.symm
    rw [sumTo_succ] at h'
    have a4 := one_on T.pos (H.mem (2 * (S / 2)) (by omega)) ((2 * (S / 2) : Nat) : Int) (H.at_ _ (by omega))
    have a5 := T.pos _ (H.mem (2 * (S / 2)) (by omega))
    omega

/-! first fit, in some order: what its plan lays onto each bar -/
theorem rd_set_at (l : List Int) (i a v : Int) (hi : 0 ≤ i) (ha : 0 ≤ a) (hl : i < (l.length : Int)) : rd (l.set i.toNat v) a = if a = i then v else rd l a := by
  obtain ⟨n, rfl⟩ := Int.eq_ofNat_of_zero_le hi
  obtain ⟨m, rfl⟩ := Int.eq_ofNat_of_zero_le ha
  rw [rd_nat, rd_nat, Int.toNat_natCast, List.getD_eq_getElem?_getD, List.getD_eq_getElem?_getD, List.getElem?_set]
  by_cases e : n = m
  · subst e
    rw [if_pos rfl, if_pos (by omega), if_pos rfl]
    rfl
  · rw [if_neg e, if_neg (by omega)]
theorem rd_app_lt (l : List Int) (j : Nat) (v : Int) (h : j < l.length) : rd (l ++ [v]) (j : Int) = rd l (j : Int) := by
  rw [rd_nat, rd_nat, List.getD_eq_getElem?_getD, List.getD_eq_getElem?_getD, List.getElem?_append_left h]
theorem nxt_rd (bar : Int) (left : List Int) (p : Int) (j : Nat) (hj : j < (nxt bar left p).length) : rd (nxt bar left p) (j : Int) = (if j < left.length then rd left (j : Int) else bar) - if ((fAt left p : Nat) : Int) = (j : Int) then p else 0 := by
  rw [nxt_len] at hj
  have ha := fAt_le left p
  unfold nxt
  by_cases h : fAt left p < left.length
  · rw [if_pos h] at hj ⊢
    have := rd_set_at left ((fAt left p : Nat) : Int) (j : Int) (rd left ((fAt left p : Nat) : Int) - p) (by omega) (by omega) (by omega)
    rw [Int.toNat_natCast] at this
    rw [this, if_pos hj]
    by_cases e : j = fAt left p
    · subst e
      rw [if_pos rfl, if_pos rfl]
    · rw [if_neg (by omega), if_neg (by omega)]
      omega
  · rw [if_neg h] at hj ⊢
    by_cases e : j < left.length
    · rw [if_pos e, if_neg (by omega), rd_app_lt left j _ e]
      omega
    · have : j = left.length := by omega
      subst this
      rw [if_neg (by omega), if_pos (by omega), rd_snoc]
structure Run (bar : Int) (ps done pl left : List Int) (hd : Nat → Int) (ds : Prop) : Prop where
  len : pl.length = ps.length
  rng : ∀ i ∈ done, 0 ≤ i ∧ i < (ps.length : Int)
  nd : done.Pairwise (· ≠ ·)
  on : ∀ i ∈ done, 0 ≤ rd pl i ∧ rd pl i < (left.length : Int)
  load : ∀ j : Nat, j < left.length → rd left (j : Int) = bar - loadAt ps pl done (j : Int)
  full : ∀ i ∈ done, ∀ j : Nat, (j : Int) < rd pl i → rd left (j : Int) < rd ps i
  heads : Heads ps done pl left.length hd
  falls : ds → Falls ps done pl left.length hd
theorem load_step {ps pl done : List Int} {i k : Int} (hi : 0 ≤ i ∧ i < (pl.length : Int)) (hn : i ∉ done) (h0 : ∀ a ∈ done, 0 ≤ a) (j : Int) : loadAt ps (pl.set i.toNat k) (done ++ [i]) j = loadAt ps pl done j + if k = j then rd ps i else 0 := by
  unfold loadAt
  rw [List.map_append, List.sum_append]
  simp only [List.map_cons, List.map_nil, List.sum_cons, List.sum_nil]
  rw [rd_set_at pl i i k hi.1 hi.1 hi.2, if_pos rfl]
  have : (done.map fun a => if rd (pl.set i.toNat k) a = j then rd ps a else 0).sum = (done.map fun a => if rd pl a = j then rd ps a else 0).sum := sum_congr' fun a ha => by
    rw [rd_set_at pl i a k hi.1 (h0 a ha) hi.2, if_neg (show ¬ a = i from fun e => hn (by rw [← e]; exact ha))]
  omega
theorem run_step {bar : Int} {ps done pl left : List Int} {hd : Nat → Int} {ds : Prop} (R : Run bar ps done pl left hd ds) (W : Fits bar ps left) (i : Int) (hi : 0 ≤ i ∧ i < (ps.length : Int)) (hn : i ∉ done) (hds : ds → ∀ a ∈ done, rd ps i ≤ rd ps a) :
    Run bar ps (done ++ [i]) (pl.set i.toNat ((fAt left (rd ps i) : Nat) : Int)) (nxt bar left (rd ps i)) (fun j => if j < left.length then hd j else i) ds := by
  have hp := W.each i hi.1 hi.2
  have hk := fAt_le left (rd ps i)
  have hlen := nxt_len bar left (rd ps i)
  have hge : left.length ≤ (nxt bar left (rd ps i)).length := by rw [hlen]; split <;> omega
  have hil : i < (pl.length : Int) := by rw [R.len]; exact hi.2
  have hold : ∀ a ∈ done, rd (pl.set i.toNat ((fAt left (rd ps i) : Nat) : Int)) a = rd pl a := fun a ha => by
    rw [rd_set_at pl i a _ hi.1 (R.rng a ha).1 hil, if_neg (show ¬ a = i from fun e => hn (by rw [← e]; exact ha))]
  have hnew : rd (pl.set i.toNat ((fAt left (rd ps i) : Nat) : Int)) i = ((fAt left (rd ps i) : Nat) : Int) := by rw [rd_set_at pl i i _ hi.1 hi.1 hil, if_pos rfl]
  have hload0 : ∀ j : Nat, left.length ≤ j → loadAt ps pl done (j : Int) = 0 := fun j hj => by
    unfold loadAt
    have : (done.map fun a => if rd pl a = (j : Int) then rd ps a else 0).sum = (done.map fun _ => (0 : Int)).sum := sum_congr' fun a ha => if_neg (by have := R.on a ha; omega)
    rw [this]
    clear this hold hn hds R
    induction done with
    | nil => rfl
    | cons a t ih => simpa using ih
  have hkl : ∀ j : Nat, j < (nxt bar left (rd ps i)).length → ¬ j < left.length → j = left.length ∧ fAt left (rd ps i) = left.length := fun j hj h => by
    rw [hlen] at hj
    split at hj <;> omega
  constructor
  · rw [List.length_set]; exact R.len
  · intro a ha
    rcases List.mem_append.mp ha with h | h
    · exact R.rng a h
    · rw [List.mem_singleton] at h; subst h; exact hi
  · rw [List.pairwise_append]
    refine ⟨R.nd, by simp, fun a ha b hb => ?_⟩
    rw [List.mem_singleton] at hb
    subst hb
    exact fun e => hn (by rw [← e]; exact ha)
  · intro a ha
    rcases List.mem_append.mp ha with h | h
    · rw [hold a h]
      have := R.on a h
      omega
    · rw [List.mem_singleton] at h
      subst h
      rw [hnew, hlen]
      split <;> omega
  · intro j hj
    rw [nxt_rd bar left (rd ps i) j hj, load_step ⟨hi.1, hil⟩ hn (fun a ha => (R.rng a ha).1)]
    by_cases h : j < left.length
    · rw [if_pos h, R.load j h]
      omega
    · rw [if_neg h, hload0 j (by omega)]
      omega
  · intro a ha j hj
    rcases List.mem_append.mp ha with h | h
    · rw [hold a h] at hj
      have h1 := R.on a h
      have h2 := R.full a h j hj
      rw [nxt_rd bar left (rd ps i) j (by omega), if_pos (by omega)]
      split <;> omega
    · rw [List.mem_singleton] at h
      subst h
      rw [hnew] at hj
      have h2 : j < fAt left (rd ps a) := by omega
      have h3 := fAt_miss h2
      rw [nxt_rd bar left (rd ps a) j (by omega), if_pos (by omega), if_neg (by omega), rd_get left j (by omega)]
      omega
  · constructor
    · intro j hj
      show (if j < left.length then hd j else i) ∈ _
      by_cases h : j < left.length
      · rw [if_pos h]; exact List.mem_append.mpr (.inl (R.heads.mem j h))
      · rw [if_neg h]; simp
    · intro j hj
      show rd _ (if j < left.length then hd j else i) = _
      by_cases h : j < left.length
      · rw [if_pos h, hold _ (R.heads.mem j h)]; exact R.heads.at_ j h
      · rw [if_neg h, hnew]
        have := hkl j hj h
        omega
  · intro d a ha j hj hle
    show rd ps a ≤ rd ps (if j < left.length then hd j else i)
    rcases List.mem_append.mp ha with h | h
    · rw [hold a h] at hle
      have h1 := R.on a h
      rw [if_pos (by omega)]
      exact R.falls d a h j (by omega) hle
    · rw [List.mem_singleton] at h
      subst h
      by_cases h : j < left.length
      · rw [if_pos h]; exact hds d _ (R.heads.mem j h)
      · rw [if_neg h]; omega
theorem run_all {bar : Int} {ps : List Int} {ds : Prop} : ∀ (o done pl left : List Int) (hd : Nat → Int), Run bar ps done pl left hd ds → Fits bar ps left → (∀ i ∈ o, 0 ≤ i ∧ i < (ps.length : Int)) → (done ++ o).Pairwise (· ≠ ·) → (ds → ∀ a ∈ done, ∀ i ∈ o, rd ps i ≤ rd ps a) → (ds → o.Pairwise fun a b => rd ps b ≤ rd ps a) → ∃ left' hd', Run bar ps (done ++ o) (fitL bar ps o pl left) left' hd' ds ∧ Fits bar ps left'
  | [], done, pl, left, hd, R, W, _, _, _, _ => ⟨left, hd, by rw [List.append_nil]; exact R, W⟩
  | i :: o, done, pl, left, hd, R, W, hr, hn, h1, h2 => by
    have hi := hr i (by simp)
    have hni : i ∉ done := fun h => by
      rw [List.pairwise_append] at hn
      exact absurd rfl (hn.2.2 i h i (by simp))
    have S := run_step R W i hi hni (fun d a ha => h1 d a ha i (by simp))
    have := run_all o (done ++ [i]) _ _ _ S (W.next i hi.1 hi.2) (fun x hx => hr x (by simp [hx])) (by rw [List.append_assoc]; exact hn) (fun d a ha x hx => by
      rcases List.mem_append.mp ha with h | h
      · exact h1 d a h x (by simp [hx])
      · rw [List.mem_singleton] at h
        subst h
        exact (List.pairwise_cons.mp (h2 d)).1 x hx) (fun d => (List.pairwise_cons.mp (h2 d)).2)
    rw [List.append_assoc] at this
    exact this
/-- What first fit gives, in an order of all pieces. -/
theorem run_fit {bar : Int} {ps : List Int} (W : Fits bar ps []) (ds : Prop) (o : List Int) (ho : ∀ i ∈ o, 0 ≤ i ∧ i < (ps.length : Int)) (hn : o.Pairwise (· ≠ ·)) (hd : ds → o.Pairwise fun a b => rd ps b ≤ rd ps a) : ∃ (S : Nat) (hd : Nat → Int), Tight bar ps o (fitL bar ps o (List.replicate ps.length 0) []) S ∧ Heads ps o (fitL bar ps o (List.replicate ps.length 0) []) S hd ∧ (ds → Falls ps o (fitL bar ps o (List.replicate ps.length 0) []) S hd) ∧ Plan bar ps o (fitL bar ps o (List.replicate ps.length 0) []) S := by
  have R0 : Run bar ps [] (List.replicate ps.length 0) [] (fun _ => 0) ds := ⟨by simp, by simp, List.Pairwise.nil, by simp, by simp, by simp, ⟨fun j hj => by simp at hj, fun j hj => by simp at hj⟩, fun _ a ha => by simp at ha⟩
  obtain ⟨left, hd', R, W'⟩ := run_all o [] _ _ _ R0 W ho (by simpa using hn) (by simp) hd
  rw [List.nil_append] at R
  refine ⟨left.length, hd', ⟨hn, fun i hi => (W.each i (ho i hi).1 (ho i hi).2).1, R.on, fun i hi j hj => ?_⟩, R.heads, R.falls, ⟨R.on, fun j hj => ?_⟩⟩
  · have h1 := R.full i hi j hj
    have h2 := R.on i hi
    rw [R.load j (by omega)] at h1
    omega
  · have h1 := W'.left_ok _ (List.getElem_mem hj)
    have h2 := R.load j hj
    rw [rd_get left j hj] at h2
    omega

/-! plans whose bars are numbered in order -/
def canon : Nat → List Int → Prop
  | _, [] => True
  | m, a :: t => 0 ≤ a ∧ a ≤ (m : Int) ∧ canon (if a = (m : Int) then m + 1 else m) t
def canonEnd : Nat → List Int → Nat
  | m, [] => m
  | m, a :: t => canonEnd (if a = (m : Int) then m + 1 else m) t
theorem canonEnd_ge : ∀ (m : Nat) (t : List Int), m ≤ canonEnd m t
  | m, [] => Nat.le_refl m
  | m, a :: t => by
    have := canonEnd_ge (if a = (m : Int) then m + 1 else m) t
    show m ≤ canonEnd _ t
    split at this <;> split <;> first | omega | contradiction
theorem canon_lt : ∀ (m : Nat) (t : List Int), canon m t → ∀ x ∈ t, 0 ≤ x ∧ x < (canonEnd m t : Int)
  | m, [], _ => by simp
  | m, a :: t, h => by
    intro x hx
    obtain ⟨h0, h1, h2⟩ := h
    have hge := canonEnd_ge (if a = (m : Int) then m + 1 else m) t
    show 0 ≤ x ∧ x < ((canonEnd (if a = (m : Int) then m + 1 else m) t : Nat) : Int)
    rcases List.mem_cons.mp hx with rfl | hx
    · refine ⟨h0, ?_⟩
      split at hge <;> split <;> first | omega | contradiction
    · exact canon_lt _ t h2 x hx
theorem loadAt_nonneg {ps : List Int} (hp : ∀ x ∈ ps, 1 ≤ x) (pl : List Int) (o : List Int) (ho : ∀ i ∈ o, 0 ≤ i ∧ i < (ps.length : Int)) (j : Int) : 0 ≤ loadAt ps pl o j := by
  refine sum_nonneg' _ o fun i hi => ?_
  have h := ho i hi
  obtain ⟨n, rfl⟩ := Int.eq_ofNat_of_zero_le h.1
  have := hp _ (List.getElem_mem (show n < ps.length by omega))
  rw [rd_get ps n (by omega)]
  split <;> omega
theorem loadAt_snoc (ps pl : List Int) (i : Nat) (j : Int) : loadAt ps pl (iota (i + 1)) j = loadAt ps pl (iota i) j + if rd pl (i : Int) = j then rd ps (i : Int) else 0 := by
  unfold loadAt
  rw [← iota_snoc]
  simp [List.sum_append]
theorem loadAt_grow {ps : List Int} (hp : ∀ x ∈ ps, 1 ≤ x) (pl : List Int) (j : Int) (i : Nat) : ∀ d, i + d ≤ ps.length → loadAt ps pl (iota i) j ≤ loadAt ps pl (iota (i + d)) j
  | 0, _ => Int.le_refl _
  | d + 1, h => by
    have h1 := loadAt_grow hp pl j i d (by omega)
    rw [show i + (d + 1) = i + d + 1 by omega, loadAt_snoc]
    have := hp _ (List.getElem_mem (show i + d < ps.length by omega))
    rw [rd_get ps (i + d) (by omega)]
    split <;> omega
theorem sums_of {bar : Int} {ps r : List Int} (hb : 1 ≤ bar ∧ bar ≤ 1000) (hp : ∀ x ∈ ps, 1 ≤ x ∧ x ≤ bar) (hl : r.length = ps.length) (hf : ∀ j : Nat, loadAt ps r (iota ps.length) (j : Int) ≤ bar) (d : Nat) : ∀ (i : Nat) (s : List Int), r.length - i = d → i ≤ r.length → canon s.length (r.drop i) → (∀ j : Nat, j < s.length → rd s (j : Int) = loadAt ps r (iota i) (j : Int)) → (∀ j : Nat, s.length ≤ j → loadAt ps r (iota i) (j : Int) = 0) → ∃ s', sumsGo bar ps (r.drop i) i s = some s' ∧ s'.length = canonEnd s.length (r.drop i) ∧ ∀ j : Nat, j < s'.length → rd s' (j : Int) = loadAt ps r (iota ps.length) (j : Int) := by
  have hp1 : ∀ x ∈ ps, 1 ≤ x := fun x hx => (hp x hx).1
  induction d with
  | zero =>
    intro i s hd hi hc hs hz
    rw [List.drop_of_length_le (by omega)]
    refine ⟨s, rfl, rfl, fun j hj => ?_⟩
    rw [hs j hj, show i = ps.length by omega]
  | succ d ih =>
    intro i s hd hi hc hs hz
    have hlt : i < r.length := by omega
    have hltp : i < ps.length := by omega
    rw [List.drop_eq_getElem_cons hlt] at hc ⊢
    obtain ⟨h0, h1, h2⟩ := hc
    have er := rd_get r i hlt
    have hstep := fun j : Int => loadAt_snoc ps r i j
    rw [er] at hstep
    generalize r[i] = a at h0 h1 h2 er hstep
    obtain ⟨n, rfl⟩ := Int.eq_ofNat_of_zero_le h0
    have hpi := hp _ (List.getElem_mem hltp)
    have epi := rd_get ps i hltp
    have htop := loadAt_grow hp1 r (n : Int) (i + 1) (ps.length - (i + 1)) (by omega)
    rw [show i + 1 + (ps.length - (i + 1)) = ps.length by omega] at htop
    have hfn := hf n
    have hlow := loadAt_nonneg hp1 r (iota i) (fun x hx => by have := iota_mem hx; omega) (n : Int)
    have hstepn := hstep (n : Int)
    rw [if_pos rfl] at hstepn
    generalize hq : rd ps (i : Int) = p at hstep hstepn epi
    have hsum : (wrap64 (rd (if (n : Int) = (s.length : Int) then s ++ [0] else s) (n : Int) + p)) = loadAt ps r (iota (i + 1)) (n : Int) ∧ rd (if (n : Int) = (s.length : Int) then s ++ [0] else s) (n : Int) + p = loadAt ps r (iota (i + 1)) (n : Int) := by
      have e : rd (if (n : Int) = (s.length : Int) then s ++ [0] else s) (n : Int) = loadAt ps r (iota i) (n : Int) := by
        by_cases h : n = s.length
        · subst h
          rw [if_pos rfl, rd_snoc, hz s.length (Nat.le_refl _)]
        · rw [if_neg (by omega), hs n (by omega)]
      rw [e, w64 (by omega) (by omega)]
      omega
    obtain ⟨hs1, hs2⟩ := hsum
    rw [sumsGo, if_neg (by omega), hq, hs1, if_neg (by omega)]
    show ∃ s', sumsGo bar ps (r.drop (i + 1)) (i + 1) _ = some s' ∧ s'.length = canonEnd (if (n : Int) = (s.length : Int) then s.length + 1 else s.length) (r.drop (i + 1)) ∧ _
    have hnat : (((n : Nat) : Int)).toNat = n := Int.toNat_natCast n
    by_cases h : n = s.length
    · subst h
      rw [if_pos rfl] at h2 ⊢
      rw [if_pos rfl, hnat]
      have hl2 : ((s ++ [0]).set s.length (loadAt ps r (iota (i + 1)) (s.length : Int))).length = s.length + 1 := by simp
      rw [← hl2] at h2 ⊢
      refine ih (i + 1) _ (by omega) (by omega) h2 (fun j hj => ?_) (fun j hj => ?_)
      · rw [hl2] at hj
        rw [set_snoc]
        by_cases hjn : j = s.length
        · subst hjn
          rw [rd_snoc]
        · rw [rd_app_lt s j _ (by omega), hs j (by omega), hstep, if_neg (by omega)]
          omega
      · rw [hl2] at hj
        rw [hstep, if_neg (by omega), hz j (by omega)]
        rfl
    · rw [if_neg (by omega)] at h2 ⊢
      rw [if_neg (by omega), hnat]
      have hl2 : (s.set n (loadAt ps r (iota (i + 1)) (n : Int))).length = s.length := by simp
      rw [← hl2] at h2 ⊢
      refine ih (i + 1) _ (by omega) (by omega) h2 (fun j hj => ?_) (fun j hj => ?_)
      · rw [hl2] at hj
        have := rd_set_at s (n : Int) (j : Int) (loadAt ps r (iota (i + 1)) (n : Int)) (by omega) (by omega) (by omega)
        rw [hnat] at this
        rw [this]
        by_cases hjn : j = n
        · subst hjn
          rw [if_pos rfl]
        · rw [if_neg (by omega), hs j hj, hstep, if_neg (by omega)]
          omega
      · rw [hl2] at hj
        rw [hstep, if_neg (by omega), hz j (by omega)]
        rfl
theorem sums_all {bar : Int} {ps r : List Int} (hb : 1 ≤ bar ∧ bar ≤ 1000) (hp : ∀ x ∈ ps, 1 ≤ x ∧ x ≤ bar) (hl : r.length = ps.length) (hf : ∀ j : Nat, loadAt ps r (iota ps.length) (j : Int) ≤ bar) (hc : canon 0 r) : ∃ s', sumsGo bar ps r 0 [] = some s' ∧ s'.length = canonEnd 0 r ∧ ∀ j : Nat, j < s'.length → rd s' (j : Int) = loadAt ps r (iota ps.length) (j : Int) := by
  have := sums_of hb hp hl hf r.length 0 [] (by omega) (by omega) (by rw [List.drop_zero]; exact hc) (by simp) (fun j _ => rfl)
  rw [List.drop_zero] at this
  exact this
/-! bars numbered anew -/
def growAll : List Int → List Int → List Int
  | nm, [] => nm
  | nm, v :: t => growAll (grow nm v) t
theorem ren_canon : ∀ (t nm : List Int), canon nm.length (ren nm t) ∧ canonEnd nm.length (ren nm t) = (growAll nm t).length
  | [], nm => ⟨trivial, rfl⟩
  | v :: t, nm => by
    have h := ren_canon t (grow nm v)
    show (0 ≤ (((grow nm v).idxOf v : Nat) : Int) ∧ (((grow nm v).idxOf v : Nat) : Int) ≤ (nm.length : Int) ∧ canon _ (ren (grow nm v) t)) ∧ canonEnd _ (ren (grow nm v) t) = (growAll (grow nm v) t).length
    rw [grow_idx]
    have hle := List.idxOf_le_length (a := v) (l := nm)
    by_cases e : v ∈ nm
    · have hlt := List.idxOf_lt_length_of_mem e
      have hg : grow nm v = nm := if_pos e
      rw [hg] at h ⊢
      rw [if_neg (by omega)]
      exact ⟨⟨by omega, by omega, h.1⟩, h.2⟩
    · have heq := List.idxOf_eq_length e
      have hg : (grow nm v).length = nm.length + 1 := by unfold grow; rw [if_neg e]; simp
      rw [hg] at h
      rw [if_pos (by omega)]
      exact ⟨⟨by omega, by omega, h.1⟩, h.2⟩
theorem growAll_ext : ∀ (t nm : List Int), ∃ e, growAll nm t = nm ++ e
  | [], nm => ⟨[], by rw [List.append_nil]; rfl⟩
  | v :: t, nm => by
    obtain ⟨e, he⟩ := growAll_ext t (grow nm v)
    show ∃ e, growAll (grow nm v) t = nm ++ e
    rw [he]
    unfold grow
    split
    · exact ⟨e, rfl⟩
    · exact ⟨[v] ++ e, by rw [List.append_assoc]⟩
theorem growAll_nd : ∀ (t nm : List Int), nm.Nodup → (growAll nm t).Nodup
  | [], nm, h => h
  | v :: t, nm, h => by
    refine growAll_nd t (grow nm v) ?_
    unfold grow
    split
    · exact h
    · rename_i e
      rw [List.nodup_append]
      refine ⟨h, by simp, fun a ha b hb => ?_⟩
      rw [List.mem_singleton] at hb
      subst hb
      exact fun e2 => e (by rw [← e2]; exact ha)
theorem growAll_mem : ∀ (t nm : List Int) (x : Int), x ∈ growAll nm t ↔ x ∈ nm ∨ x ∈ t
  | [], nm, x => by simp [growAll]
  | v :: t, nm, x => by
    show x ∈ growAll (grow nm v) t ↔ _
    rw [growAll_mem t]
    unfold grow
    split
    · rename_i e
      rw [List.mem_cons]
      constructor
      · rintro (h | h)
        · exact .inl h
        · exact .inr (.inr h)
      · rintro (h | rfl | h)
        · exact .inl h
        · exact .inl e
        · exact .inr h
    · rw [List.mem_append, List.mem_singleton, List.mem_cons, or_assoc]
theorem ren_map : ∀ (t nm : List Int), ren nm t = t.map fun v => (((growAll nm t).idxOf v : Nat) : Int)
  | [], nm => rfl
  | v :: t, nm => by
    show (((grow nm v).idxOf v : Nat) : Int) :: ren (grow nm v) t = _
    rw [ren_map t (grow nm v)]
    show _ = (((growAll (grow nm v) t).idxOf v : Nat) : Int) :: t.map _
    congr 2
    obtain ⟨e, he⟩ := growAll_ext t (grow nm v)
    rw [he, List.idxOf_append, if_pos (by
      unfold grow
      split
      · assumption
      · simp)]
theorem rd_map' (f : Int → Int) (l : List Int) (i : Int) (h0 : 0 ≤ i) (h1 : i < (l.length : Int)) : rd (l.map f) i = f (rd l i) := by
  obtain ⟨n, rfl⟩ := Int.eq_ofNat_of_zero_le h0
  rw [rd_get _ n (by rw [List.length_map]; omega), rd_get _ n (by omega), List.getElem_map]
theorem ren_load {ps p : List Int} (hl : p.length = ps.length) (j : Nat) (hj : j < (growAll [] p).length) : loadAt ps (ren [] p) (iota ps.length) (j : Int) = loadAt ps p (iota ps.length) ((growAll [] p)[j]) := by
  refine sum_congr' fun i hi => ?_
  have hi' := iota_mem hi
  rw [ren_map, rd_map' _ _ _ hi'.1 (by omega)]
  have hmem : rd p i ∈ growAll [] p := by
    rw [growAll_mem]
    obtain ⟨n, rfl⟩ := Int.eq_ofNat_of_zero_le hi'.1
    rw [rd_get p n (by omega)]
    exact .inr (List.getElem_mem _)
  have hnd := growAll_nd p [] List.nodup_nil
  have hlt := List.idxOf_lt_length_of_mem hmem
  have hget := List.getElem_idxOf hlt
  by_cases e : (growAll [] p).idxOf (rd p i) = j
  · rw [if_pos (by omega), if_pos]
    subst e
    exact hget.symm
  · rw [if_neg (by omega), if_neg]
    intro e2
    apply e
    rw [e2]
    exact idx_nodup hnd hj
theorem ren_load0 {ps p : List Int} (hl : p.length = ps.length) (j : Nat) (hj : (growAll [] p).length ≤ j) : loadAt ps (ren [] p) (iota ps.length) (j : Int) = 0 := by
  have : loadAt ps (ren [] p) (iota ps.length) (j : Int) = ((iota ps.length).map fun _ => (0 : Int)).sum := by
    refine sum_congr' fun i hi => ?_
    have hi' := iota_mem hi
    rw [ren_map, rd_map' _ _ _ hi'.1 (by omega)]
    have hmem : rd p i ∈ growAll [] p := by
      rw [growAll_mem]
      obtain ⟨n, rfl⟩ := Int.eq_ofNat_of_zero_le hi'.1
      rw [rd_get p n (by omega)]
      exact .inr (List.getElem_mem _)
    have hlt := List.idxOf_lt_length_of_mem hmem
    rw [if_neg (by omega)]
  rw [this]
  generalize iota ps.length = o
  induction o with
  | nil => rfl
  | cons a t ih => simpa using ih

/-! the search finds what there is, and the first of it -/
def bef : List Int → List Int → Bool
  | a :: x, b :: y => if a = b then bef x y else decide (a < b)
  | _, _ => false
theorem sumsGo_cons {bar : Int} (hb : 1 ≤ bar ∧ bar ≤ 1000) (ps su r : List Int) (i k : Nat) (hk : k ≤ su.length) (hg : ∀ x ∈ su, 1 ≤ x ∧ x ≤ bar) (hp : 1 ≤ rd ps (i : Int) ∧ rd ps (i : Int) ≤ bar) : sumsGo bar ps ((k : Int) :: r) i su = if sumAt su k + rd ps (i : Int) ≤ bar then sumsGo bar ps r (i + 1) (upd su k (rd ps (i : Int))) else none := by
  have hnat : (((k : Nat) : Int)).toNat = k := Int.toNat_natCast k
  rw [sumsGo, if_neg (by omega), hnat]
  by_cases h : k = su.length
  · subst h
    rw [if_pos rfl, sumAt_new, upd_new, rd_snoc, set_snoc, w64 (by omega) (by omega), Int.zero_add]
    by_cases hq : rd ps (i : Int) ≤ bar
    · rw [if_neg (by omega), if_pos hq]
    · omega
  · have hlt : k < su.length := by omega
    have hv := hg _ (List.getElem_mem hlt)
    have er := rd_get su k hlt
    have hne : ¬ (k : Int) = (su.length : Int) := by omega
    rw [if_neg hne, sumAt_old hlt, upd_old hlt, w64 (by omega) (by omega)]
    by_cases hq : rd su (k : Int) + rd ps (i : Int) ≤ bar
    · rw [if_neg (by omega), if_pos hq]
    · rw [if_pos (by omega), if_neg hq]
theorem some_first {α : Type} (f : Nat → Option α) : ∀ (L k : Nat), k < L → (f k).isSome = true → ∃ k0, k0 ≤ k ∧ (f k0).isSome = true ∧ (List.range L).findSome? f = f k0
  | 0, k, h, _ => by omega
  | L + 1, k, h, hs => by
    rw [List.range_succ, List.findSome?_append]
    by_cases hk : k < L
    · obtain ⟨k0, h1, h2, h3⟩ := some_first f L k hk hs
      refine ⟨k0, h1, h2, ?_⟩
      rw [h3]
      cases hf : f k0 with
      | none => rw [hf] at h2; simp at h2
      | some v => rfl
    · have : k = L := by omega
      subst this
      cases hf : (List.range k).findSome? f with
      | some v =>
        obtain ⟨k0, h1, h2⟩ := List.exists_of_findSome?_eq_some hf
        rw [List.mem_range] at h1
        exact ⟨k0, by omega, by rw [h2]; rfl, by rw [h2]; rfl⟩
      | none =>
        refine ⟨k, Nat.le_refl _, hs, ?_⟩
        cases hf2 : f k with
        | none => rw [hf2] at hs; simp at hs
        | some v => simp [hf2]
theorem find_sums {bar m : Int} (hb : 1 ≤ bar ∧ bar ≤ 1000) (ps : List Int) (hp : ∀ x ∈ ps, 1 ≤ x ∧ x ≤ bar) : ∀ (l su r : List Int) (i : Nat), ps.drop i = l → (∀ x ∈ su, 1 ≤ x ∧ x ≤ bar) → ((su.length : Nat) : Int) ≤ m → find bar m l su = some r → ∃ s', sumsGo bar ps r i su = some s' ∧ ((s'.length : Nat) : Int) ≤ m ∧ s'.sum = su.sum + l.sum ∧ (∀ x ∈ s', 1 ≤ x ∧ x ≤ bar)
  | [], su, r, i, _, hg, hm, h => by
    have : r = [] := by simpa [find] using h.symm
    subst this
    exact ⟨su, rfl, hm, by simp, hg⟩
  | p :: t, su, r, i, hd, hg, hm, h => by
    have hlt : i < ps.length := by
      refine Classical.byContradiction fun hc => ?_
      rw [List.drop_of_length_le (by omega)] at hd
      simp at hd
    rw [drop_rd hlt] at hd
    injection hd with e1 e2
    have hpi : 1 ≤ rd ps (i : Int) ∧ rd ps (i : Int) ≤ bar := by rw [rd_get ps i hlt]; exact hp _ (List.getElem_mem hlt)
    rw [find_cons, List.drop_zero] at h
    obtain ⟨k, hk, hf⟩ := List.exists_of_findSome?_eq_some h
    rw [List.mem_range] at hk
    unfold findK at hf
    split at hf
    · rename_i hc
      obtain ⟨r', hr', rfl⟩ := Option.map_eq_some_iff.mp hf
      have hul := upd_len (show k ≤ su.length by omega) p
      have hug := upd_good hg (show 1 ≤ p by omega) hc.2
      obtain ⟨s', h1, h2, h3, h4⟩ := find_sums hb ps hp t (upd su k p) r' (i + 1) e2 hug (by rw [hul]; split <;> omega) hr'
      refine ⟨s', ?_, h2, ?_, h4⟩
      · rw [sumsGo_cons hb ps su r' i k (by omega) hg hpi, e1, if_pos hc.2]
        exact h1
      · rw [h3, upd_sum, List.sum_cons]
        omega
    · exact absurd hf (by simp)
theorem sumsGo_canon {bar : Int} (hb : 1 ≤ bar ∧ bar ≤ 1000) (ps : List Int) : ∀ (r su s' : List Int) (i : Nat), sumsGo bar ps r i su = some s' → canon su.length r ∧ canonEnd su.length r = s'.length
  | [], su, s', i, h => by
    have : su = s' := by simpa [sumsGo] using h
    subst this
    exact ⟨trivial, rfl⟩
  | n :: r, su, s', i, h => by
    rw [sumsGo] at h
    by_cases h1 : n < 0 ∨ n > (su.length : Int)
    · rw [if_pos h1] at h; simp at h
    · rw [if_neg h1] at h
      by_cases h2 : wrap64 (rd (if n = (su.length : Int) then su ++ [0] else su) n + rd ps (i : Int)) > bar
      · rw [if_pos h2] at h; simp at h
      · rw [if_neg h2] at h
        have := sumsGo_canon hb ps r _ s' (i + 1) h
        have hl : ((if n = (su.length : Int) then su ++ [0] else su).set n.toNat (wrap64 (rd (if n = (su.length : Int) then su ++ [0] else su) n + rd ps (i : Int)))).length = if n = (su.length : Int) then su.length + 1 else su.length := by
          rw [List.length_set]
          split <;> simp
        rw [hl] at this
        exact ⟨⟨by omega, by omega, this.1⟩, this.2⟩
theorem find_least {bar m : Int} (hb : 1 ≤ bar ∧ bar ≤ 1000) (ps : List Int) (hp : ∀ x ∈ ps, 1 ≤ x ∧ x ≤ bar) : ∀ (l su r s' : List Int) (i : Nat), ps.drop i = l → r.length = l.length → (∀ x ∈ su, 1 ≤ x ∧ x ≤ bar) → sumsGo bar ps r i su = some s' → ((s'.length : Nat) : Int) ≤ m → ∃ r', find bar m l su = some r' ∧ bef r r' = false
  | [], su, r, s', i, _, hr, _, _, _ => by
    have : r = [] := List.eq_nil_of_length_eq_zero (by simpa using hr)
    subst this
    exact ⟨[], rfl, rfl⟩
  | p :: t, su, [], s', i, _, hr, _, _, _ => by simp at hr
  | p :: t, su, n :: r, s', i, hd, hr, hg, hs, hm => by
    have hlt : i < ps.length := by
      refine Classical.byContradiction fun hc => ?_
      rw [List.drop_of_length_le (by omega)] at hd
      simp at hd
    rw [drop_rd hlt] at hd
    injection hd with e1 e2
    have hpi : 1 ≤ rd ps (i : Int) ∧ rd ps (i : Int) ≤ bar := by rw [rd_get ps i hlt]; exact hp _ (List.getElem_mem hlt)
    have hcan := sumsGo_canon hb ps (n :: r) su s' i hs
    have hn := canon_lt su.length (n :: r) hcan.1 n (by simp)
    rw [hcan.2] at hn
    obtain ⟨⟨c0, c1, _⟩, _⟩ := hcan
    obtain ⟨k, rfl⟩ := Int.eq_ofNat_of_zero_le c0
    rw [sumsGo_cons hb ps su r i k (by omega) hg hpi, e1] at hs
    split at hs
    · rename_i hfit
      obtain ⟨r', h1, h2⟩ := find_least hb ps hp t (upd su k p) r s' (i + 1) e2 (by simpa using hr) (upd_good hg (by omega) hfit) hs hm
      have hfk : findK bar m p t su k = some ((k : Int) :: r') := by
        unfold findK
        rw [if_pos ⟨by omega, hfit⟩, h1]
        rfl
      obtain ⟨k0, g1, g2, g3⟩ := some_first (findK bar m p t su) (su.length + 1) k (by omega) (by rw [hfk]; rfl)
      rw [find_cons, List.drop_zero, g3]
      obtain ⟨q, hq⟩ := Option.isSome_iff_exists.mp g2
      refine ⟨q, hq, ?_⟩
      by_cases e : k0 = k
      · subst e
        rw [hfk] at hq
        rw [← Option.some.inj hq]
        show (if (k0 : Int) = (k0 : Int) then bef r r' else _) = false
        rw [if_pos rfl]
        exact h2
      · unfold findK at hq
        split at hq
        · obtain ⟨q', _, rfl⟩ := Option.map_eq_some_iff.mp hq
          show (if (k : Int) = (k0 : Int) then bef r q' else decide ((k : Int) < (k0 : Int))) = false
          rw [if_neg (by omega)]
          exact decide_eq_false (by omega)
        · simp at hq
    · simp at hs
theorem impl_at (bar : Int) (ps : List Int) (W : PsOk bar ps) (m : Nat) (K : Nat) (hK : 400 < K) : (∀ r, find bar m ps [] = some r → ∃ su', bbs.put K bar ps (m : Int) [] [] = some (true, r, su')) ∧ (find bar m ps [] = none → bbs.put K bar ps (m : Int) [] [] = some (false, [], [])) := by
  have h8 := W.len
  exact impl_put bar (m : Int) ps W ps.length [] [] K (by simp) (by simp) (by simp) (by simp) (by omega)
theorem most_min (bar : Int) (ps : List Int) (W : PsOk bar ps) (d : Nat) : ∀ (m : Nat), ps.length - m = d → m ≤ ps.length → ∃ (n : Nat) (r : List Int), m ≤ n ∧ n ≤ ps.length ∧ find bar (n : Int) ps [] = some r ∧ (∀ q : Nat, m ≤ q → q < n → find bar (q : Int) ps [] = none) ∧ ∀ K, 410 + d < K → bbs.most K bar ps (m : Int) = some r := by
  have h8 := W.len
  induction d with
  | zero =>
    intro m hd hm
    obtain ⟨r, hr⟩ := find_some bar (m : Int) W.bar_ok.1 ps [] W.each (by simp; omega)
    refine ⟨m, r, Nat.le_refl _, hm, hr, fun q h1 h2 => by omega, fun K hK => ?_⟩
    obtain ⟨K, rfl⟩ := succ_of (show 0 < K by omega)
    obtain ⟨su', h1⟩ := (impl_at bar ps W m K (by omega)).1 r hr
    simp only [bbs.most, h1, Option.bind_some, if_true]
  | succ d ih =>
    intro m hd hm
    cases hf : find bar m ps [] with
    | some r =>
      refine ⟨m, r, Nat.le_refl _, hm, hf, fun q h1 h2 => by omega, fun K hK => ?_⟩
      obtain ⟨K, rfl⟩ := succ_of (show 0 < K by omega)
      obtain ⟨su', h1⟩ := (impl_at bar ps W m K (by omega)).1 r hf
      simp only [bbs.most, h1, Option.bind_some, if_true]
    | none =>
      obtain ⟨n, r, h1, h2, h3, h4, h5⟩ := ih (m + 1) (by omega) (by omega)
      refine ⟨n, r, by omega, h2, h3, fun q g1 g2 => ?_, fun K hK => ?_⟩
      · by_cases e : q = m
        · subst e; exact hf
        · exact h4 q (by omega) g2
      · obtain ⟨K, rfl⟩ := succ_of (show 0 < K by omega)
        simp only [bbs.most, (impl_at bar ps W m K (by omega)).2 hf, Option.bind_some, Bool.false_eq_true, if_false]
        rw [w1 (by omega)]
        exact h5 K (by omega)

/-! the order that sorting gives -/
/-- The order: higher ones first, then earlier ones. -/
def RS (ps : List Int) (i j : Int) : Prop := ht ps j ≤ ht ps i ∧ (ht ps i = ht ps j → i < j)
theorem posGo_above (l : List Int) (S : List Int) (x : Int) : ∀ k j, posGo l S x k ≤ j → j < k → ht l (rd S (j : Int)) < ht l x
  | 0, j, _, h => by omega
  | k + 1, j, h1, h2 => by
    unfold posGo at h1
    by_cases c : ht l (rd S (k : Int)) < ht l x
    · rw [if_pos c] at h1
      by_cases e : j = k
      · subst e; exact c
      · exact posGo_above l S x k j h1 (by omega)
    · rw [if_neg c] at h1; omega
theorem posGo_below (l : List Int) (S : List Int) (x : Int) : ∀ k, 0 < posGo l S x k → ht l x ≤ ht l (rd S ((posGo l S x k - 1 : Nat) : Int))
  | 0, h => by simp [posGo] at h
  | k + 1, h => by
    unfold posGo at h ⊢
    by_cases c : ht l (rd S (k : Int)) < ht l x
    · rw [if_pos c] at h ⊢
      exact posGo_below l S x k h
    · rw [if_neg c]
      rw [Nat.add_sub_cancel]
      omega
theorem ins_sorted (l : List Int) (S : List Int) (x : Int) (hS : S.Pairwise (RS l)) (hx : ∀ a ∈ S, a < x) : (insAt S x (posGo l S x S.length)).Pairwise (RS l) := by
  have hle := posGo_le l S x S.length
  have hab := posGo_above l S x S.length
  have hbe := posGo_below l S x S.length
  generalize posGo l S x S.length = p at hle hab hbe
  have hst : ∀ a ∈ S.take p, RS l a x := fun a ha => by
    obtain ⟨i, hi, rfl⟩ := List.mem_iff_getElem.mp ha
    rw [List.length_take] at hi
    rw [List.getElem_take]
    have hp0 : 0 < p := by omega
    have h1 := hbe hp0
    have hi1 : p - 1 < S.length := by omega
    rw [rd_get S (p - 1) hi1] at h1
    have hlt : S[i]'(by omega) < x := hx _ (List.getElem_mem _)
    refine ⟨?_, fun _ => hlt⟩
    by_cases e : i = p - 1
    · subst e; exact h1
    · have := ((List.pairwise_iff_getElem.mp hS) i (p - 1) (by omega) hi1 (by omega)).1
      omega
  have hsd : ∀ b ∈ S.drop p, RS l x b := fun b hb => by
    obtain ⟨i, hi, rfl⟩ := List.mem_iff_getElem.mp hb
    rw [List.length_drop] at hi
    rw [List.getElem_drop]
    have := hab (p + i) (by omega) (by omega)
    rw [rd_get S (p + i) (by omega)] at this
    exact ⟨by omega, fun e => by omega⟩
  have hS' := hS
  rw [← List.take_append_drop p S, List.pairwise_append] at hS'
  unfold insAt
  rw [List.pairwise_append]
  refine ⟨hS'.1, List.pairwise_cons.mpr ⟨hsd, hS'.2.1⟩, fun a ha b hb => ?_⟩
  rcases List.mem_cons.mp hb with rfl | hb
  · exact hst a ha
  · exact hS'.2.2 a ha b hb
theorem insAt_mem' (S : List Int) (x : Int) (p : Nat) (y : Int) : y ∈ insAt S x p ↔ y = x ∨ y ∈ S := by
  unfold insAt
  rw [List.mem_append, List.mem_cons]
  constructor
  · rintro (h | h | h)
    · exact .inr (List.mem_of_mem_take h)
    · exact .inl h
    · exact .inr (List.mem_of_mem_drop h)
  · rintro (h | h)
    · exact .inr (.inl h)
    · rw [← List.take_append_drop p S, List.mem_append] at h
      rcases h with h | h
      · exact .inl h
      · exact .inr (.inr h)
theorem orderGo_facts (l : List Int) : ∀ (d i : Nat) (S : List Int), S.Pairwise (RS l) → (∀ a, a ∈ S ↔ 0 ≤ a ∧ a < (i : Int)) → (orderGo l d i S).Pairwise (RS l) ∧ ∀ a, a ∈ orderGo l d i S ↔ 0 ≤ a ∧ a < ((i + d : Nat) : Int)
  | 0, i, S, h1, h2 => ⟨h1, h2⟩
  | d + 1, i, S, h1, h2 => by
    rw [orderGo]
    have := orderGo_facts l d (i + 1) (insAt S (i : Int) (posGo l S (i : Int) S.length)) (ins_sorted l S _ h1 (fun a ha => ((h2 a).mp ha).2)) (fun a => by
      rw [insAt_mem', h2]
      omega)
    rw [show i + (d + 1) = i + 1 + d by omega]
    exact this
theorem order_facts (l : List Int) : (orderGo l l.length 0 []).Pairwise (RS l) ∧ ∀ a, a ∈ orderGo l l.length 0 [] ↔ 0 ≤ a ∧ a < (l.length : Int) := by
  have := orderGo_facts l l.length 0 [] List.Pairwise.nil (fun a => by simp <;> omega)
  rw [Nat.zero_add] at this
  exact this

/- IsTightPlan: both texts look, for each piece, whether a bar with a lesser number has room for it. -/
def tightOne (bar : Int) (s : List Int) (v : Int) (n : Nat) : Bool := (s.take n).all fun x => decide (¬ (x + v ≤ bar))
def tightGo (bar : Int) (p s : List Int) : List Int → Nat → Bool
  | [], _ => true
  | n :: r, i => tightOne bar s (rd p (i : Int)) n.toNat && tightGo bar p s r (i + 1)
theorem all_take_step {s : List Int} {f : Int → Bool} {j n : Nat} (hj : j < n) (hn : n ≤ s.length) : ((s.take n).drop j).all f = (f (rd s (j : Int)) && ((s.take n).drop (j + 1)).all f) := by
  have hl : j < (s.take n).length := by rw [List.length_take]; omega
  rw [List.drop_eq_getElem_cons hl, List.all_cons, List.getElem_take, rd_get s j (by omega)]
theorem tight_impl_in (bar : Int) (hb : 1 ≤ bar ∧ bar ≤ 1000) (p s l : List Int) (hp : ∀ x ∈ p, 1 ≤ x ∧ x ≤ bar) (hs : ∀ x ∈ s, 0 ≤ x ∧ x ≤ bar) (i n : Nat) (hi : i < p.length) (hn : n ≤ s.length) (hn2 : n ≤ 1048576) (Q : Bool) (d : Nat) : ∀ (k j : Nat), n - j = d → j ≤ n → d < k → (∀ k', k ≤ k' + d + 1 → impl_IsTightPlan.l0 k' bar p s l (l.length : Int) (wrap64 ((i : Int) + 1)) = some Q) → impl_IsTightPlan.l1 k bar p s (i : Int) l (l.length : Int) (i : Int) (n : Int) (j : Int) = some (((s.take n).drop j).all (fun x => decide (¬ (x + rd p (i : Int) ≤ bar))) && Q) := by
  induction d with
  | zero =>
    intro k j hd hj hk hQ
    obtain ⟨k, rfl⟩ := succ_of hk
    have : j = n := by omega
    subst this
    simp only [impl_IsTightPlan.l1, lt_f (Nat.le_refl j), if_false]
    rw [hQ k (by omega), List.drop_of_length_le (by rw [List.length_take]; omega)]
    simp
  | succ d ih =>
    intro k j hd hj hk hQ
    obtain ⟨k, rfl⟩ := succ_of hk
    have hlt : j < n := by omega
    have h1 := hs _ (rd_mem (s := s) (n := (j : Int)) (by omega) (by omega))
    have h2 := hp _ (rd_mem (s := p) (n := (i : Int)) (by omega) (by omega))
    have hih := ih k (j + 1) (by omega) (by omega) (by omega) (fun k' hk' => hQ k' (by omega))
    rw [all_take_step hlt hn]
    simp only [impl_IsTightPlan.l1, lt_t hlt, lt_t (show j < s.length by omega), lt_t hi, nn_t, if_true, w1 (show j ≤ 140737488355328 by omega), hih]
    rw [w64 (by omega) (by omega)]
    by_cases g : rd s (j : Int) + rd p (i : Int) ≤ bar
    · simp [g]
    · simp [g]
theorem tight_impl_l (bar : Int) (hb : 1 ≤ bar ∧ bar ≤ 1000) (p s l : List Int) (hp : ∀ x ∈ p, 1 ≤ x ∧ x ≤ bar) (hs : ∀ x ∈ s, 0 ≤ x ∧ x ≤ bar) (hpl : l.length = p.length) (hl : l.length ≤ 8) (hs8 : s.length ≤ 8) (hn : ∀ n ∈ l, 0 ≤ n ∧ n < (s.length : Int)) (d : Nat) : ∀ (k i : Nat), l.length - i = d → i ≤ l.length → 20 * d < k → impl_IsTightPlan.l0 k bar p s l (l.length : Int) (i : Int) = some (tightGo bar p s (l.drop i) i) := by
  induction d with
  | zero =>
    intro k i hd hi hk
    obtain ⟨k, rfl⟩ := succ_of (show 0 < k by omega)
    simp only [impl_IsTightPlan.l0, lt_f (show l.length ≤ i by omega), if_false, List.drop_of_length_le (show l.length ≤ i by omega), tightGo]
  | succ d ih =>
    intro k i hd hi hk
    obtain ⟨k, rfl⟩ := succ_of (show 0 < k by omega)
    have hlt : i < l.length := by omega
    have hni := hn _ (rd_mem (s := l) (n := (i : Int)) (by omega) (by omega))
    rw [drop_rd hlt]
    simp only [impl_IsTightPlan.l0, lt_t hlt, nn_t, if_true, tightGo, tightOne]
    obtain ⟨n, e⟩ := Int.eq_ofNat_of_zero_le hni.1
    rw [e] at hni ⊢
    rw [Int.toNat_natCast]
    have := tight_impl_in bar hb p s l hp hs i n (by omega) (by omega) (by omega) (tightGo bar p s (l.drop (i + 1)) (i + 1)) n k 0 (by omega) (by omega) (by omega) (fun k' hk' => by
      rw [w1 (show i ≤ 140737488355328 by omega)]
      exact ih k' (i + 1) (by omega) (by omega) (by omega))
    rw [Int.ofNat_zero, List.drop_zero] at this
    exact this
/- LongFirst: the same order, the same plan, the bars numbered anew alike. -/
theorem fitL_bound (bar : Int) (ps : List Int) : ∀ (o plan left : List Int), left.length + o.length ≤ 8 → (∀ x ∈ plan, 0 ≤ x ∧ x ≤ 100) → ∀ x ∈ fitL bar ps o plan left, 0 ≤ x ∧ x ≤ 100
  | [], _, _, _, h => h
  | i :: o, plan, left, hl, h => by
    rw [fitL]
    refine fitL_bound bar ps o _ _ ?_ ?_
    · rw [nxt_len]
      simp only [List.length_cons] at hl
      split <;> omega
    · intro x hx
      rcases List.mem_or_eq_of_mem_set hx with hx | hx
      · exact h x hx
      · have := fAt_le left (rd ps i)
        simp only [List.length_cons] at hl
        omega
theorem pieces_fits {bar : Int} {ps : List Int} (hn : ps.length ≤ 8) (W : Fits bar ps []) : Pieces ps := ⟨hn, fun i h0 h1 => by
  have := W.each i h0 h1
  have := W.bar_ok
  unfold ht
  omega⟩
theorem iota_mem_iff (m : Nat) (a : Int) : a ∈ iota m ↔ 0 ≤ a ∧ a < (m : Int) := by
  constructor
  · exact iota_mem
  · intro h
    obtain ⟨j, rfl⟩ := Int.eq_ofNat_of_zero_le h.1
    simp only [iota, List.mem_map, List.mem_range]
    exact ⟨j, by omega, rfl⟩
theorem iota_idx (m : Nat) (j : Nat) (h : j < m) : (iota m).idxOf (j : Int) = j := by
  induction m with
  | zero => omega
  | succ m ih =>
    rw [← iota_snoc, List.idxOf_append]
    by_cases e : j < m
    · rw [if_pos ((iota_mem_iff m _).mpr (by omega)), ih e]
    · have : j = m := by omega
      subst this
      rw [if_neg (fun h => by have := iota_mem h; omega), iota_len]
      simp
theorem canon_renum (x : List Int) (hx : x.length ≤ 8) (d : Nat) : ∀ (k i m : Nat), x.length - i = d → i ≤ x.length → m ≤ i → canon m (x.drop i) → d < k → renum k x (iota m) (i : Int) = some x := by
  induction d with
  | zero =>
    intro k i m hd hi hm hc hk
    obtain ⟨k, rfl⟩ := succ_of hk
    simp only [renum]
    rw [if_neg (by omega)]
  | succ d ih =>
    intro k i m hd hi hm hc hk
    obtain ⟨k, rfl⟩ := succ_of hk
    have hlt : i < x.length := by omega
    rw [List.drop_eq_getElem_cons hlt] at hc
    obtain ⟨h1, h2, h3⟩ := hc
    simp only [renum]
    rw [if_pos (by omega), rd_get x i hlt, if_pos ⟨⟨by omega, by rw [iota_len]; omega⟩, by omega, by omega⟩, w1 (by omega)]
    obtain ⟨a, ha⟩ := Int.eq_ofNat_of_zero_le h1
    have hset : x.set i (a : Int) = x := by rw [← ha]; exact List.set_getElem_self hlt
    rw [ha] at h3 h2 ⊢
    by_cases e : (a : Int) = (m : Int)
    · have e2 : a = m := by omega
      subst e2
      rw [if_pos rfl] at h3
      have hg : grow (iota a) (a : Int) = iota (a + 1) := by
        unfold grow
        rw [if_neg (fun h => by have := iota_mem h; omega), iota_snoc]
      rw [hg, iota_idx (a + 1) a (by omega), Int.toNat_natCast, hset]
      exact ih k (i + 1) (a + 1) (by omega) (by omega) (by omega) h3 (by omega)
    · rw [if_neg e] at h3
      have hg : grow (iota m) (a : Int) = iota m := by
        unfold grow
        rw [if_pos ((iota_mem_iff m _).mpr (by omega))]
      rw [hg, iota_idx m a (by omega), Int.toNat_natCast, hset]
      exact ih k (i + 1) m (by omega) (by omega) (by omega) h3 (by omega)
theorem fit_canon (bar : Int) (ps : List Int) (n : Nat) (d : Nat) : ∀ (c : Nat) (plan left : List Int), n - c = d → c ≤ n → plan.length = n → (fitL bar ps ((iota n).drop c) plan left).take c = plan.take c ∧ canon left.length ((fitL bar ps ((iota n).drop c) plan left).drop c) := by
  induction d with
  | zero =>
    intro c plan left hd hc hp
    rw [List.drop_of_length_le (by rw [iota_len]; omega)]
    refine ⟨rfl, ?_⟩
    show canon _ (plan.drop c)
    rw [List.drop_of_length_le (by omega)]
    trivial
  | succ d ih =>
    intro c plan left hd hc hp
    rw [iota_drop n c (by omega)]
    show (fitL bar ps ((iota n).drop (c + 1)) _ _).take c = _ ∧ canon _ ((fitL bar ps ((iota n).drop (c + 1)) _ _).drop c)
    generalize hq : plan.set ((c : Nat) : Int).toNat ((fAt left (rd ps (c : Int)) : Nat) : Int) = plan'
    rw [Int.toNat_natCast] at hq
    have hl' : plan'.length = n := by rw [← hq, List.length_set]; exact hp
    obtain ⟨h1, h2⟩ := ih (c + 1) plan' (nxt bar left (rd ps (c : Int))) (by omega) (by omega) hl'
    have hl2 : (fitL bar ps ((iota n).drop (c + 1)) plan' (nxt bar left (rd ps (c : Int)))).length = n := by rw [fitL_len, hl']
    generalize fitL bar ps ((iota n).drop (c + 1)) plan' (nxt bar left (rd ps (c : Int))) = r at h1 h2 hl2
    have h3 : r.take c = plan.take c := by
      have := congrArg (List.take c) h1
      rw [List.take_take, List.take_take, Nat.min_eq_left (by omega)] at this
      rw [this, ← hq, List.take_set_of_le (Nat.le_refl _)]
    refine ⟨h3, ?_⟩
    have hlt : c < r.length := by omega
    have h4 : r[c] = ((fAt left (rd ps (c : Int)) : Nat) : Int) := by
      have h5 : r[c]? = plan'[c]? := by
        have := congrArg (fun z => z[c]?) h1
        simp only [List.getElem?_take_of_lt (Nat.lt_succ_self c)] at this
        exact this
      rw [List.getElem?_eq_getElem hlt, ← hq, List.getElem?_set_self (by omega)] at h5
      exact Option.some.inj h5
    rw [List.drop_eq_getElem_cons hlt, h4]
    have ha := fAt_le left (rd ps (c : Int))
    rw [nxt_len] at h2
    refine ⟨by omega, by omega, ?_⟩
    by_cases e : fAt left (rd ps (c : Int)) < left.length
    · rw [if_neg (by omega)]
      rw [if_pos e] at h2
      exact h2
    · rw [if_pos (by omega)]
      rw [if_neg e] at h2
      exact h2

theorem sum_same (f : Int → Int) : ∀ (a b : List Int), a.Pairwise (· ≠ ·) → b.Pairwise (· ≠ ·) → (∀ z, z ∈ a ↔ z ∈ b) → (a.map f).sum = (b.map f).sum
  | [], b, _, _, h => by
    have : b = [] := List.eq_nil_iff_forall_not_mem.mpr fun z hz => by simpa using (h z).mpr hz
    rw [this]
  | x :: r, b, ha, hb, h => by
    have hx : x ∈ b := (h x).mp (by simp)
    obtain ⟨s, t, rfl⟩ := List.append_of_mem hx
    rw [List.pairwise_cons] at ha
    rw [List.pairwise_append, List.pairwise_cons] at hb
    have e := sum_same f r (s ++ t) ha.2 (by
      rw [List.pairwise_append]
      exact ⟨hb.1, hb.2.1.2, fun u hu v hv => hb.2.2 u hu v (by simp [hv])⟩) (fun z => by
      have hz := h z
      rw [List.mem_append, List.mem_cons, List.mem_cons] at hz
      rw [List.mem_append]
      constructor
      · intro hr
        rcases hz.mp (.inr hr) with h1 | rfl | h1
        · exact .inl h1
        · exact absurd rfl (ha.1 z hr)
        · exact .inr h1
      · rintro (h1 | h1)
        · rcases hz.mpr (.inl h1) with rfl | h2
          · exact absurd rfl (hb.2.2 z h1 z (by simp))
          · exact h2
        · rcases hz.mpr (.inr (.inr h1)) with rfl | h2
          · exact absurd rfl (hb.2.1.1 z h1)
          · exact h2)
    rw [List.map_cons, List.sum_cons, e]
    simp only [List.map_append, List.map_cons, List.sum_append, List.sum_cons]
    omega

theorem wrap_i64 (n : Int) : IntKind.i64.wrap n = wrap64 n := by
  simp only [IntKind.wrap, IntKind.bits, IntKind.signed, wrap64, Bool.true_and, decide_eq_true_eq, ge_iff_le]
  split <;> omega
theorem ofInt_i64 (a : Nat) (ha : a < 18446744073709551616) : (BitVec.ofInt 64 (a : Int)).toNat = a := by
  rw [BitVec.ofInt_natCast, BitVec.toNat_ofNat]; exact Nat.mod_eq_of_lt (by omega)
theorem i64_and (a b : Nat) (ha : a < 9223372036854775808) (hb : b < 9223372036854775808) : Go.bits .and .i64 (a : Int) (b : Int) = ((a &&& b : Nat) : Int) := by
  have hx : a &&& b < 2 ^ 63 := Nat.and_lt_two_pow _ (by omega)
  show IntKind.i64.wrap ((BitVec.ofInt 64 (a : Int) &&& BitVec.ofInt 64 (b : Int)).toNat : Int) = _
  rw [BitVec.toNat_and, ofInt_i64 a (by omega), ofInt_i64 b (by omega), wrap_i64, w64 (by omega) (by omega)]
theorem i64_or (a b : Nat) (ha : a < 9223372036854775808) (hb : b < 9223372036854775808) : Go.bits .or .i64 (a : Int) (b : Int) = ((a ||| b : Nat) : Int) := by
  have hx : a ||| b < 2 ^ 63 := Nat.or_lt_two_pow (by omega) (by omega)
  show IntKind.i64.wrap ((BitVec.ofInt 64 (a : Int) ||| BitVec.ofInt 64 (b : Int)).toNat : Int) = _
  rw [BitVec.toNat_or, ofInt_i64 a (by omega), ofInt_i64 b (by omega), wrap_i64, w64 (by omega) (by omega)]
/-- a &^ b -/
def andn (a b : Nat) : Nat := a &&& (18446744073709551615 - b)
theorem i64_andNot (a b : Nat) (ha : a < 9223372036854775808) (hb : b < 9223372036854775808) : Go.bits .andNot .i64 (a : Int) (b : Int) = ((andn a b : Nat) : Int) := by
  have hx : andn a b ≤ a := Nat.and_le_left
  show IntKind.i64.wrap ((BitVec.ofInt 64 (a : Int) &&& ~~~BitVec.ofInt 64 (b : Int)).toNat : Int) = _
  rw [BitVec.toNat_and, BitVec.toNat_not, ofInt_i64 a (by omega), ofInt_i64 b (by omega), wrap_i64]
  have e : 2 ^ 64 - 1 - b = 18446744073709551615 - b := by omega
  rw [e, w64]
  · rfl
  · omega
  · have : a &&& (18446744073709551615 - b) ≤ a := Nat.and_le_left
    omega
theorem testBit_andn (a b i : Nat) (ha : a < 18446744073709551616) (hb : b < 18446744073709551616) : (andn a b).testBit i = (a.testBit i && !b.testBit i) := by
  unfold andn
  rw [Nat.testBit_and]
  have := Nat.testBit_two_pow_sub_succ (n := 64) (x := b) (by omega) i
  rw [show (18446744073709551615 - b) = 2 ^ 64 - (b + 1) by omega, this]
  by_cases h : i < 64
  · simp [h]
  · have : a.testBit i = false := Nat.testBit_lt_two_pow (Nat.lt_of_lt_of_le ha (by rw [show 18446744073709551616 = 2 ^ 64 by rfl]; exact Nat.pow_le_pow_right (by omega) (by omega)))
    simp [this]
theorem shl_one (n : Nat) (hn : n ≤ 62) : shl .i64 1 (n : Int) = ((2 ^ n : Nat) : Int) := by
  have h1 : (2 : Nat) ^ n ≤ 2 ^ 62 := Nat.pow_le_pow_right (by omega) hn
  unfold shl
  rw [Int.toNat_natCast, show IntKind.i64.bits = 64 from rfl, Nat.min_eq_left (by omega), wrap_i64, w64]
  · simp
  · have : (0 : Int) ≤ 1 * 2 ^ n := by rw [Int.one_mul]; exact Int.pow_nonneg (by omega)
    omega
  · have : (1 * 2 ^ n : Int) = ((2 ^ n : Nat) : Int) := by simp
    rw [this]
    omega

set_option linter.unusedSectionVars false
theorem and255 (v : Int) : 0 ≤ Go.bits .and .i64 v 255 ∧ Go.bits .and .i64 v 255 ≤ 255 := by
  have h : (BitVec.ofInt 64 v &&& BitVec.ofInt 64 255).toNat ≤ 255 := by
    rw [BitVec.toNat_and]
    exact Nat.le_trans Nat.and_le_right (by decide)
  have e : Go.bits .and .i64 v 255 = (((BitVec.ofInt 64 v &&& BitVec.ofInt 64 255).toNat : Nat) : Int) := by
    show IntKind.i64.wrap ((BitVec.ofInt 64 v &&& BitVec.ofInt 64 255).toNat : Int) = _
    rw [wrap_i64, w64 (by omega) (by omega)]
  rw [e]
  omega
section
variable {b : List Int} (hb : b.length ≤ 1048576)
include hb
theorem byte_f (p h : Int) (hp : 0 ≤ p ∧ p ≤ (b.length : Int)) : ∃ x p' h', spec_l01Byte.f b p h = some (x, p', h') ∧ (0 ≤ x ∧ x ≤ 255) ∧ 0 ≤ p' ∧ p' ≤ (b.length : Int) := by
  unfold spec_l01Byte.f
  by_cases c : p < (b.length : Int)
  · rw [if_pos c, if_pos hp.1]
    refine ⟨_, _, _, rfl, and255 _, ?_⟩
    rw [w64 (by omega) (by omega)]
    omega
  · rw [if_neg c]
    exact ⟨_, _, _, rfl, and255 _, hp⟩
theorem below_f (p h n : Int) (hp : 0 ≤ p ∧ p ≤ (b.length : Int)) (hn : 1 ≤ n ∧ n ≤ 256) : ∃ x p' h', spec_l01Below.f b p h n = some (x, p', h') ∧ (0 ≤ x ∧ x < n) ∧ 0 ≤ p' ∧ p' ≤ (b.length : Int) := by
  obtain ⟨x, p', h', e, hx, hp'⟩ := byte_f hb p h hp
  refine ⟨Int.tmod x n, p', h', ?_, ⟨Int.tmod_nonneg _ hx.1, Int.tmod_lt_of_pos _ (by omega)⟩, hp'⟩
  unfold spec_l01Below.f
  rw [if_neg (by omega), if_pos hn.2, e]
  simp only [Option.bind_some]
  rw [if_neg (by omega)]
theorem new_l (d : Nat) : ∀ (i : Nat) (h : Int), b.length - i = d → i ≤ b.length → ∃ h', Ev (fun k => spec_l01New.l0 k b h (i : Int)) (b, 0, h') := by
  induction d with
  | zero =>
    intro i h hd hi
    refine ⟨h, Ev.step (f := fun _ => some (b, 0, h)) (fun k => ?_) (Ev.now _)⟩
    simp only [spec_l01New.l0, lt_f (show b.length ≤ i by omega), if_false]
  | succ d ih =>
    intro i h hd hi
    have hlt : i < b.length := by omega
    by_cases c : (i : Int) < 4000
    · obtain ⟨h', H⟩ := ih (i + 1) (Go.bits .and .i64 (wrap64 ((wrap64 ((wrap64 (h * 179)) + (wrap64 (rd b (i : Int))))) + 7)) 1073741823) (by omega) (by omega)
      refine ⟨h', Ev.step (fun k => ?_) H⟩
      simp only [spec_l01New.l0, lt_t hlt, nn_t, if_true, c, w1 (show i ≤ 140737488355328 by omega)]
    · refine ⟨h, Ev.step (f := fun _ => some (b, 0, h)) (fun k => ?_) (Ev.now _)⟩
      simp only [spec_l01New.l0, lt_t hlt, if_true, c, if_false]
theorem l31_l (n : Nat) (hn : n ≤ 100) (d : Nat) : ∀ (i : Nat) (p h : Int), n - i = d → i ≤ n → (0 ≤ p ∧ p ≤ (b.length : Int)) → ∃ p' h', Ev (fun k => spec_l31New.l0 k (n : Int) b p h (i : Int)) (b, p', h') ∧ 0 ≤ p' ∧ p' ≤ (b.length : Int) := by
  induction d with
  | zero =>
    intro i p h hd hi hp
    refine ⟨p, h, Ev.step (f := fun _ => some (b, p, h)) (fun k => ?_) (Ev.now _), hp⟩
    simp only [spec_l31New.l0, lt_f (show n ≤ i by omega), if_false]
  | succ d ih =>
    intro i p h hd hi hp
    have hlt : i < n := by omega
    obtain ⟨x, p1, h1, e, _, hp1⟩ := byte_f hb p h hp
    obtain ⟨p', h', H, hp'⟩ := ih (i + 1) p1 h1 (by omega) (by omega) hp1
    refine ⟨p', h', Ev.step (fun k => ?_) H, hp'⟩
    simp only [spec_l31New.l0, lt_t hlt, if_true, e, Option.bind_some, w1 (show i ≤ 140737488355328 by omega)]
theorem l31_f (n : Nat) (hn : n ≤ 100) : ∃ p' h', Ev (fun k => spec_l31New.f k b (n : Int)) (b, p', h') ∧ 0 ≤ p' ∧ p' ≤ (b.length : Int) := by
  obtain ⟨h0, H0⟩ := new_l hb b.length 0 (wrap64 (2173 + (b.length : Int))) rfl (Nat.zero_le _)
  obtain ⟨p', h', H, hp'⟩ := l31_l hb n hn n 0 0 h0 rfl (Nat.zero_le _) ⟨by omega, by omega⟩
  refine ⟨p', h', ?_, hp'⟩
  unfold spec_l31New.f spec_l01New.f
  exact Ev.bind H0 H
end

theorem left_out_l (bar : Int) (hb : 1 ≤ bar ∧ bar ≤ 1000) (s : List Int) (hs : ∀ x ∈ s, 0 ≤ x ∧ x ≤ bar) (hl : s.length ≤ 1048576) (d : Nat) : ∀ (k i : Nat) (out : List Int), s.length - i = d → i ≤ s.length → out = (s.take i).map (fun x => bar - x) → d < k → impl_LeftOn.l0 k bar s out (s.length : Int) (i : Int) = some (s.map fun x => bar - x) := by
  induction d with
  | zero =>
    intro k i out hd hi ho hk
    obtain ⟨k, rfl⟩ := succ_of hk
    simp only [impl_LeftOn.l0, lt_f (show s.length ≤ i by omega), if_false]
    rw [ho, List.take_of_length_le (by omega)]
  | succ d ih =>
    intro k i out hd hi ho hk
    obtain ⟨k, rfl⟩ := succ_of hk
    have hlt : i < s.length := by omega
    have hx := hs _ (List.getElem_mem hlt)
    have hol : out.length < 17592186044416 := by rw [ho, List.length_map, List.length_take]; omega
    simp only [impl_LeftOn.l0, lt_t hlt, nn_t, if_true, w1 (show i ≤ 140737488355328 by omega), hol, rd_get s i hlt]
    rw [w64 (by omega) (by omega)]
    refine ih k (i + 1) _ (by omega) (by omega) ?_ (by omega)
    rw [ho, List.take_add_one, List.map_append]
    simp [hlt]
/-! what is drawn -/
def BarsDrawn (bar : Int) (l : List Int) : Prop := (6 ≤ bar ∧ bar ≤ 20) ∧ l.length ≤ 7 ∧ ∀ x ∈ l, 1 ≤ x ∧ x ≤ bar
section
variable {b : List Int} (hb : b.length ≤ 1048576)
include hb
theorem once_f (p h n : Int) (hp : 0 ≤ p ∧ p ≤ (b.length : Int)) (hn : 1 ≤ n ∧ n ≤ 256) : ∃ t p' h', spec_l01Once.f b p h n = some (t, p', h') ∧ 0 ≤ p' ∧ p' ≤ (b.length : Int) := by
  obtain ⟨x, p', h', e, _, hp'⟩ := below_f hb p h n hp hn
  unfold spec_l01Once.f
  rw [e]
  exact ⟨_, _, _, rfl, hp'⟩
theorem draw18_l1 (bar : Int) (hbar : 6 ≤ bar ∧ bar ≤ 20) (p h : Int) (n : Nat) (hn : n ≤ 7) (d : Nat) : ∀ (i : Nat) (l : List Int), l.length = n → n - i = d → i ≤ n → (∀ x ∈ l, 1 ≤ x ∧ x ≤ bar) → ∃ l', Ev (fun k => spec_l18Draw.l1 k bar l (n : Int) (i : Int) b p h) (bar, l', p, h) ∧ BarsDrawn bar l' := by
  induction d with
  | zero =>
    intro i l hl hd hi hx
    refine ⟨l, Ev.step (f := fun _ => some (bar, l, p, h)) (fun k => ?_) (Ev.now _), hbar, by omega, hx⟩
    simp only [spec_l18Draw.l1, lt_f (show n ≤ i by omega), if_false]
  | succ d ih =>
    intro i l hl hd hi hx
    have hlt : i < n := by omega
    have hlt' : i < l.length := by omega
    have hv := hx _ (List.getElem_mem hlt')
    have e2 : Int.tdiv l[i] 2 = l[i] / 2 := Int.tdiv_eq_ediv_of_nonneg (by omega)
    obtain ⟨l', H, hl'⟩ := ih (i + 1) (l.set i (1 + l[i] / 2)) (by rw [List.length_set]; exact hl) (by omega) (by omega) (fun x hx' => by
      rcases List.mem_or_eq_of_mem_set hx' with h1 | h1
      · exact hx x h1
      · omega)
    refine ⟨l', Ev.step (fun k => ?_) H, hl'⟩
    simp only [spec_l18Draw.l1, lt_t hlt, lt_t hlt', nn_t, if_true, rd_get l i hlt', e2, Int.toNat_natCast, w1 (show i ≤ 140737488355328 by omega)]
    rw [w64 (show -9223372036854775808 ≤ l[i] / 2 by omega) (by omega), w64 (by omega) (by omega)]
theorem draw18_l0 (bar : Int) (hbar : 6 ≤ bar ∧ bar ≤ 20) (d : Nat) : ∀ (l : List Int) (p h : Int), l.length + d ≤ 7 → (0 ≤ p ∧ p ≤ (b.length : Int)) → (∀ x ∈ l, 1 ≤ x ∧ x ≤ bar) → ∃ l' p' h', Ev (fun k => spec_l18Draw.l0 k bar l (d : Int) b p h) (bar, l', p', h') ∧ BarsDrawn bar l' := by
  induction d with
  | zero =>
    intro l p h hl hp hx
    obtain ⟨t, p1, h1, e, hp1⟩ := once_f hb p h 2 hp (by omega)
    cases t with
    | false =>
      refine ⟨l, p1, h1, Ev.step (f := fun _ => some (bar, l, p1, h1)) (fun k => ?_) (Ev.now _), hbar, by omega, hx⟩
      simp only [spec_l18Draw.l0]
      rw [if_neg (by omega), e]
      rfl
    | true =>
      obtain ⟨l', H, hl'⟩ := draw18_l1 hb bar hbar p1 h1 l.length (by omega) l.length 0 l rfl (by omega) (by omega) hx
      refine ⟨l', p1, h1, Ev.step (fun k => ?_) H, hl'⟩
      simp only [spec_l18Draw.l0]
      rw [if_neg (by omega), e]
      rfl
  | succ d ih =>
    intro l p h hl hp hx
    obtain ⟨x, p1, h1, e, hx1, hp1⟩ := below_f hb p h bar hp (by omega)
    obtain ⟨l', p2, h2, H, hl'⟩ := ih (l ++ [1 + x]) p1 h1 (by rw [List.length_append, List.length_singleton]; omega) hp1 (fun y hy => by
      rcases List.mem_append.mp hy with h | h
      · exact hx y h
      · rw [List.mem_singleton] at h; omega)
    refine ⟨l', p2, h2, Ev.step (fun k => ?_) H, hl'⟩
    have hll : l.length < 17592186044416 := by omega
    simp only [spec_l18Draw.l0]
    rw [if_pos (by omega), e]
    simp only [Option.bind_some, hll, if_true]
    rw [w64 (show -9223372036854775808 ≤ 1 + x by omega) (by omega), w64 (by omega) (by omega), show ((d + 1 : Nat) : Int) - 1 = (d : Int) by omega]
theorem make_bars : ∃ bar l, Ev (fun k => spec_MakeBars.f k b 0) (bar, l) ∧ BarsDrawn bar l := by
  obtain ⟨p, h, H, hp⟩ := l31_f hb 0 (by omega)
  obtain ⟨x, p1, h1, e1, hx1, hp1⟩ := below_f hb p h 15 hp (by omega)
  obtain ⟨n, p2, h2, e2, hn2, hp2⟩ := below_f hb p1 h1 8 hp1 (by omega)
  obtain ⟨m, rfl⟩ := Int.eq_ofNat_of_zero_le hn2.1
  obtain ⟨l, p3, h3, HL, hl⟩ := draw18_l0 hb (6 + x) (by omega) m [] p2 h2 (by simp; omega) hp2 (by simp)
  refine ⟨6 + x, l, ?_, hl⟩
  unfold spec_MakeBars.f
  refine Ev.bind H ?_
  have HD : Ev (fun k => spec_l18Draw.f k b p h) (6 + x, l, p3, h3) := by
    unfold spec_l18Draw.f
    rw [e1]
    simp only [Option.bind_some, e2]
    rw [w64 (by omega) (by omega)]
    exact HL
  exact Ev.bind HD (Ev.now _)
end
/-! what the functions give -/
theorem drawn_ok {bar : Int} {l : List Int} (D : BarsDrawn bar l) : impl_BarsOk.f bar l = some true := by
  rw [barsOk_impl]
  have h1 : (l.all fun p => decide (1 ≤ p ∧ p ≤ bar)) = true := by
    rw [List.all_eq_true]
    intro x hx
    exact decide_eq_true (D.2.2 x hx)
  have hb := D.1
  have hl := D.2.1
  unfold barsOk
  rw [h1, decide_eq_true (show 1 ≤ bar ∧ bar ≤ 1000 by omega), decide_eq_true (show l.length ≤ 8 by omega)]
  rfl
theorem count_l (l : List Int) (hl : l.length ≤ 8) (d : Nat) : ∀ (k i m : Nat), l.length - i = d → i ≤ l.length → m ≤ i → canon m (l.drop i) → d < k → impl_CountBars.l0 k ((m : Int) - 1) l (l.length : Int) (i : Int) = some ((canonEnd m (l.drop i) : Nat) : Int) := by
  induction d with
  | zero =>
    intro k i m hd hi hm hc hk
    obtain ⟨k, rfl⟩ := succ_of hk
    simp only [impl_CountBars.l0, lt_f (show l.length ≤ i by omega), if_false]
    rw [List.drop_of_length_le (by omega), w64 (by omega) (by omega)]
    show _ = some ((m : Nat) : Int)
    congr 1
    omega
  | succ d ih =>
    intro k i m hd hi hm hc hk
    obtain ⟨k, rfl⟩ := succ_of hk
    have hlt : i < l.length := by omega
    rw [List.drop_eq_getElem_cons hlt] at hc ⊢
    obtain ⟨h0, h1, h2⟩ := hc
    simp only [impl_CountBars.l0, impl_within.f, lt_t hlt, nn_t, if_true, w1 (show i ≤ 140737488355328 by omega), rd_get l i hlt]
    generalize l[i] = x at h0 h1 h2
    simp only [ge_iff_le, h0, show x ≤ 100 by omega, decide_true, if_true, Option.bind_some]
    show impl_CountBars.l0 k (mx ((m : Int) - 1) x) l _ _ = some ((canonEnd (if x = (m : Int) then m + 1 else m) (l.drop (i + 1)) : Nat) : Int)
    by_cases e : x = (m : Int)
    · rw [if_pos e] at h2 ⊢
      have := ih k (i + 1) (m + 1) (by omega) (by omega) (by omega) h2 (by omega)
      rw [← this]
      congr 1
      unfold mx
      rw [if_pos (by omega)]
      omega
    · rw [if_neg e] at h2 ⊢
      have := ih k (i + 1) m (by omega) (by omega) (by omega) h2 (by omega)
      rw [← this]
      congr 1
      unfold mx
      rw [if_neg (by omega)]
theorem count_canon (l : List Int) (hl : l.length ≤ 8) (hc : canon 0 l) : Ev (fun k => impl_CountBars.f k l) ((canonEnd 0 l : Nat) : Int) := ⟨10, fun k hk => by
  have := count_l l hl l.length k 0 0 (by omega) (by omega) (by omega) (by rw [List.drop_zero]; exact hc) (by omega)
  rw [List.drop_zero] at this
  exact this⟩
theorem before_l (x y : List Int) (hx : x.length ≤ 8) (d : Nat) : ∀ (k i : Nat), x.length - i = d → i ≤ x.length → d < k → laws_before.l0 k y x (x.length : Int) (i : Int) = some (bef (x.drop i) (y.drop i)) := by
  induction d with
  | zero =>
    intro k i hd hi hk
    obtain ⟨k, rfl⟩ := succ_of hk
    simp only [laws_before.l0, lt_f (show x.length ≤ i by omega), if_false]
    rw [List.drop_of_length_le (show x.length ≤ i by omega)]
    rfl
  | succ d ih =>
    intro k i hd hi hk
    obtain ⟨k, rfl⟩ := succ_of hk
    have hlt : i < x.length := by omega
    simp only [laws_before.l0, lt_t hlt, nn_t, if_true, w1 (show i ≤ 140737488355328 by omega), rd_get x i hlt]
    rw [List.drop_eq_getElem_cons hlt]
    by_cases hy : i < y.length
    · rw [if_neg (by omega), if_pos (by omega), rd_get y i hy, List.drop_eq_getElem_cons hy]
      show _ = some (if x[i] = y[i] then bef (x.drop (i + 1)) (y.drop (i + 1)) else decide (x[i] < y[i]))
      by_cases e : x[i] = y[i]
      · rw [if_pos e, if_pos e]
        exact ih k (i + 1) (by omega) (by omega) (by omega)
      · rw [if_neg e, if_neg e]
    · rw [if_pos (by omega), List.drop_of_length_le (show y.length ≤ i by omega)]
      rfl
theorem before_f (x y : List Int) (hx : x.length ≤ 8) : Ev (fun k => laws_before.f k x y) (bef x y) := ⟨10, fun k hk => by
  have := before_l x y hx x.length k 0 (by omega) (by omega) (by omega)
  rw [List.drop_zero, List.drop_zero] at this
  exact this⟩
theorem lsum_l (l : List Int) (hl : l.length ≤ 8) (hv : ∀ x ∈ l, 0 ≤ x ∧ x ≤ 1000) (d : Nat) : ∀ (k i : Nat) (s : Int), l.length - i = d → i ≤ l.length → d < k → 0 ≤ s → s ≤ 1000 * i → laws_sum.l0 k s l (l.length : Int) (i : Int) = some (s + (l.drop i).sum) := by
  induction d with
  | zero =>
    intro k i s hd hi hk h0 h1
    obtain ⟨k, rfl⟩ := succ_of hk
    simp only [laws_sum.l0, lt_f (show l.length ≤ i by omega), if_false]
    rw [List.drop_of_length_le (show l.length ≤ i by omega)]
    simp
  | succ d ih =>
    intro k i s hd hi hk h0 h1
    obtain ⟨k, rfl⟩ := succ_of hk
    have hlt : i < l.length := by omega
    have hx := hv _ (List.getElem_mem hlt)
    simp only [laws_sum.l0, lt_t hlt, nn_t, if_true, w1 (show i ≤ 140737488355328 by omega), rd_get l i hlt]
    rw [w64 (by omega) (by omega), ih k (i + 1) _ (by omega) (by omega) (by omega) (by omega) (by omega), List.drop_eq_getElem_cons hlt, List.sum_cons]
    congr 1
    omega
theorem lsum_f (l : List Int) (hl : l.length ≤ 8) (hv : ∀ x ∈ l, 0 ≤ x ∧ x ≤ 1000) : Ev (fun k => laws_sum.f k l) l.sum := ⟨10, fun k hk => by
  have := lsum_l l hl hv l.length k 0 0 (by omega) (by omega) (by omega) (by omega) (by omega)
  rw [List.drop_zero, Int.zero_add] at this
  exact this⟩
theorem bound_l (bar : Int) (hb : 1 ≤ bar ∧ bar ≤ 1000) (l : List Int) (hl : l.length ≤ 8) (hv : ∀ x ∈ l, 0 ≤ x ∧ x ≤ 1000) (d : Nat) : ∀ (k i : Nat) (s : Int), l.length - i = d → i ≤ l.length → d < k → 0 ≤ s → s ≤ 1000 * i → impl_BarBound.l0 k bar s l (l.length : Int) (i : Int) = some ((s + (l.drop i).sum + bar - 1).tdiv bar) := by
  induction d with
  | zero =>
    intro k i s hd hi hk h0 h1
    obtain ⟨k, rfl⟩ := succ_of hk
    simp only [impl_BarBound.l0, lt_f (show l.length ≤ i by omega), if_false]
    rw [List.drop_of_length_le (show l.length ≤ i by omega), if_neg (by omega), w64 (show -9223372036854775808 ≤ s + bar by omega) (by omega), w64 (show -9223372036854775808 ≤ s + bar - 1 by omega) (by omega)]
    rw [List.sum_nil, Int.add_zero]
    have e : (s + bar - 1).tdiv bar = (s + bar - 1) / bar := Int.tdiv_eq_ediv_of_nonneg (by omega)
    have h2 : (s + bar - 1) / bar ≤ s + bar - 1 := Int.ediv_le_self _ (by omega)
    have h3 : 0 ≤ (s + bar - 1) / bar := Int.ediv_nonneg (by omega) (by omega)
    rw [w64 (by omega) (by omega)]
  | succ d ih =>
    intro k i s hd hi hk h0 h1
    obtain ⟨k, rfl⟩ := succ_of hk
    have hlt : i < l.length := by omega
    have hx := hv _ (List.getElem_mem hlt)
    simp only [impl_BarBound.l0, lt_t hlt, nn_t, if_true, w1 (show i ≤ 140737488355328 by omega), rd_get l i hlt]
    rw [w64 (by omega) (by omega), ih k (i + 1) _ (by omega) (by omega) (by omega) (by omega) (by omega), List.drop_eq_getElem_cons hlt, List.sum_cons]
    congr 2
    omega
theorem low_f {bar : Int} {l : List Int} (D : BarsDrawn bar l) : ∃ low, Ev (fun k => impl_BarBound.f k bar l) low ∧ l.sum ≤ low * bar ∧ 0 ≤ low ∧ (∀ n : Nat, l.sum ≤ (n : Int) * bar → low ≤ (n : Int)) := by
  obtain ⟨hb, hl, hv⟩ := id D
  have hs : 0 ≤ l.sum := (sum_le (bar := bar) l hv).1
  refine ⟨(l.sum + bar - 1).tdiv bar, ⟨10, fun k hk => ?_⟩, ?_, ?_, fun n hn => ?_⟩
  · unfold impl_BarBound.f
    rw [drawn_ok D]
    simp only [Option.bind_some, if_true]
    have := bound_l bar (by omega) l (by omega) (fun x hx => by have := hv x hx; omega) l.length k 0 0 (by omega) (by omega) (by omega) (by omega) (by omega)
    rw [List.drop_zero, Int.zero_add] at this
    exact this
  · rw [Int.tdiv_eq_ediv_of_nonneg (by omega)]
    have h1 := Int.emod_add_mul_ediv (l.sum + bar - 1) bar
    have h2 := Int.emod_lt_of_pos (l.sum + bar - 1) (show 0 < bar by omega)
    rw [Int.mul_comm bar] at h1
    omega
  · rw [Int.tdiv_eq_ediv_of_nonneg (by omega)]
    exact Int.ediv_nonneg (by omega) (by omega)
  · rw [Int.tdiv_eq_ediv_of_nonneg (by omega)]
    have h1 : (l.sum + bar - 1) / bar < (n : Int) + 1 := by
      refine Int.ediv_lt_of_lt_mul (by omega) ?_
      rw [Int.add_mul]
      omega
    omega
theorem tightGo_true (bar : Int) (p s : List Int) : ∀ (r : List Int) (i : Nat), (∀ q : Nat, (hq : q < r.length) → ∀ x ∈ s.take (r[q]).toNat, ¬ x + rd p ((i + q : Nat) : Int) ≤ bar) → tightGo bar p s r i = true
  | [], _, _ => rfl
  | n :: r, i, h => by
    unfold tightGo
    rw [Bool.and_eq_true]
    refine ⟨?_, tightGo_true bar p s r (i + 1) fun q hq x hx => ?_⟩
    · unfold tightOne
      rw [List.all_eq_true]
      intro x hx
      exact decide_eq_true (h 0 (by simp) x hx)
    · have := h (q + 1) (by simpa using hq) x (by simpa using hx)
      rw [show i + (q + 1) = i + 1 + q by omega] at this
      exact this
/-! plans and their sums -/
theorem load_zero {ps pl o : List Int} {j : Int} (h : ∀ i ∈ o, rd pl i < j) : loadAt ps pl o j = 0 := by
  have : loadAt ps pl o j = (o.map fun _ => (0 : Int)).sum := sum_congr' fun i hi => if_neg (by have := h i hi; omega)
  rw [this]
  clear this h
  induction o with
  | nil => rfl
  | cons a t ih => simpa using ih
theorem iota_map (l : List Int) : (iota l.length).map (fun i => rd l i) = l := by
  refine List.ext_getElem (by rw [List.length_map, iota_len]) fun i h1 h2 => ?_
  rw [List.getElem_map]
  have : (iota l.length)[i]'(by rw [iota_len]; exact h2) = (i : Int) := by simp [iota]
  rw [this, rd_get l i h2]
theorem iota_nd (n : Nat) : (iota n).Pairwise (· ≠ ·) := by
  unfold iota
  rw [List.pairwise_map]
  exact List.Pairwise.imp (fun h => by omega) (List.nodup_range (n := n))
theorem canonEnd_mem : ∀ (m : Nat) (t : List Int), canon m t → canonEnd m t = m ∨ ((canonEnd m t : Nat) : Int) - 1 ∈ t
  | m, [], _ => .inl rfl
  | m, a :: t, h => by
    obtain ⟨h0, h1, h2⟩ := h
    show canonEnd (if a = (m : Int) then m + 1 else m) t = m ∨ ((canonEnd (if a = (m : Int) then m + 1 else m) t : Nat) : Int) - 1 ∈ a :: t
    have := canonEnd_mem (if a = (m : Int) then m + 1 else m) t h2
    by_cases e : a = (m : Int)
    · rw [if_pos e] at this ⊢
      rcases this with h | h
      · right
        rw [h, e, List.mem_cons]
        left
        omega
      · right
        exact List.mem_cons_of_mem _ h
    · rw [if_neg e] at this ⊢
      rcases this with h | h
      · exact .inl h
      · exact .inr (List.mem_cons_of_mem _ h)
theorem mem_rd {l : List Int} {x : Int} (h : x ∈ l) : ∃ i ∈ iota l.length, rd l i = x := by
  obtain ⟨n, hn, rfl⟩ := List.mem_iff_getElem.mp h
  refine ⟨(n : Int), ?_, rd_get l n hn⟩
  simp only [iota, List.mem_map, List.mem_range]
  exact ⟨n, hn, rfl⟩
theorem rd_of_iota {l : List Int} {n : Nat} (hl : l.length = n) {i : Int} (h : i ∈ iota n) : rd l i ∈ l := by
  have := iota_mem h
  obtain ⟨m, rfl⟩ := Int.eq_ofNat_of_zero_le this.1
  rw [rd_get l m (by omega)]
  exact List.getElem_mem _
/-- In order and with a first piece on each bar: so many bars. -/
theorem canon_end_eq {ps l : List Int} {n S : Nat} (hl : l.length = n) (hc : canon 0 l) (h1 : ∀ x ∈ l, 0 ≤ x ∧ x < (S : Int)) (h2 : ∀ j : Nat, j < S → (j : Int) ∈ l) : canonEnd 0 l = S := by
  rcases canonEnd_mem 0 l hc with h | h
  · by_cases e : S = 0
    · omega
    · have := canon_lt 0 l hc _ (h2 (S - 1) (by omega))
      omega
  · have a := h1 _ h
    by_cases e : S = 0
    · omega
    · have := canon_lt 0 l hc _ (h2 (S - 1) (by omega))
      omega
theorem sums_load {bar : Int} {ps r : List Int} (hb : 1 ≤ bar ∧ bar ≤ 1000) (hp : ∀ x ∈ ps, 1 ≤ x ∧ x ≤ bar) (hl : r.length = ps.length) (d : Nat) : ∀ (i : Nat) (s s' : List Int), r.length - i = d → i ≤ r.length → (∀ x ∈ s, 1 ≤ x ∧ x ≤ bar) → (∀ j : Nat, j < s.length → rd s (j : Int) = loadAt ps r (iota i) (j : Int)) → (∀ j : Nat, s.length ≤ j → loadAt ps r (iota i) (j : Int) = 0) → sumsGo bar ps (r.drop i) i s = some s' → (∀ x ∈ s', 1 ≤ x ∧ x ≤ bar) ∧ ∀ j : Nat, j < s'.length → rd s' (j : Int) = loadAt ps r (iota ps.length) (j : Int) := by
  induction d with
  | zero =>
    intro i s s' hd hi hg hs hz h
    rw [List.drop_of_length_le (by omega)] at h
    have e : s = s' := by simpa [sumsGo] using h
    subst e
    refine ⟨hg, fun j hj => ?_⟩
    rw [hs j hj, show i = ps.length by omega]
  | succ d ih =>
    intro i s s' hd hi hg hs hz h
    have hlt : i < r.length := by omega
    have hltp : i < ps.length := by omega
    have hc := sumsGo_canon hb ps _ _ _ _ h
    rw [List.drop_eq_getElem_cons hlt] at h hc
    obtain ⟨⟨h0, h1, _⟩, _⟩ := hc
    have er := rd_get r i hlt
    have hstep := fun j : Int => loadAt_snoc ps r i j
    rw [er] at hstep
    generalize r[i] = a at h0 h1 er hstep h
    obtain ⟨n, rfl⟩ := Int.eq_ofNat_of_zero_le h0
    have hpi := hp _ (List.getElem_mem hltp)
    rw [← rd_get ps i hltp] at hpi
    rw [sumsGo_cons hb ps s _ i n (by omega) hg hpi] at h
    split at h
    · rename_i hfit
      have hul := upd_len (show n ≤ s.length by omega) (rd ps (i : Int))
      refine ih (i + 1) (upd s n (rd ps (i : Int))) s' (by omega) (by omega) (upd_good hg (by omega) hfit) (fun j hj => ?_) (fun j hj => ?_) h
      · rw [hstep]
        by_cases e : n < s.length
        · rw [upd_old e]
          have hset := rd_set_at s (n : Int) (j : Int) (rd s (n : Int) + rd ps (i : Int)) (by omega) (by omega) (by omega)
          rw [Int.toNat_natCast] at hset
          rw [hul, if_pos e] at hj
          rw [hset, ← hs j hj]
          by_cases e2 : j = n
          · subst e2
            rw [if_pos rfl, if_pos rfl]
          · rw [if_neg (by omega), if_neg (by omega)]
            omega
        · have e3 : n = s.length := by omega
          subst e3
          rw [hul, if_neg e] at hj
          rw [upd_new]
          by_cases e2 : j = s.length
          · subst e2
            rw [rd_snoc, hz s.length (Nat.le_refl _), if_pos rfl]
            omega
          · rw [rd_app_lt s j _ (by omega), hs j (by omega), if_neg (by omega)]
            omega
      · rw [hul] at hj
        rw [hstep]
        by_cases e : n < s.length
        · rw [if_pos e] at hj
          rw [hz j hj, if_neg (by omega)]
          rfl
        · rw [if_neg e] at hj
          rw [hz j (by omega), if_neg (by omega)]
          rfl
    · simp at h
/-- What the search gives: the fewest bars, and the first such plan. -/
theorem best_facts {bar : Int} {l : List Int} (D : BarsDrawn bar l) : ∃ (b s' : List Int), Ev (fun k => impl_bestBars.f k bar l) b ∧ sumsGo bar l b 0 [] = some s' ∧ canon 0 b ∧ canonEnd 0 b = s'.length ∧ b.length = l.length ∧ s'.sum = l.sum ∧ (∀ x ∈ s', 1 ≤ x ∧ x ≤ bar) ∧ (∀ j : Nat, j < s'.length → rd s' (j : Int) = loadAt l b (iota l.length) (j : Int)) ∧ (∀ r t : List Int, r.length = l.length → sumsGo bar l r 0 [] = some t → s'.length ≤ t.length ∧ (t.length = s'.length → bef r b = false)) ∧ s'.length ≤ l.length := by
  have W := bars_ps (drawn_ok D)
  have hb := W.bar_ok
  obtain ⟨n, r, _, hn, hf, hmin, hev⟩ := most_min bar l W l.length 0 (by omega) (by omega)
  obtain ⟨s', h1, h2, h3, h4⟩ := find_sums hb l W.each l [] r 0 rfl (by simp) (by simp) hf
  obtain ⟨c1, c2⟩ := sumsGo_canon hb l r [] s' 0 h1
  have hrl := find_len _ _ _ _ _ hf
  have hN : s'.length = n := by
    refine Classical.byContradiction fun hc => ?_
    obtain ⟨r', g1, _⟩ := find_least (m := ((s'.length : Nat) : Int)) hb l W.each l [] r s' 0 rfl hrl (by simp) h1 (Int.le_refl _)
    have := hmin s'.length (by omega) (by omega)
    rw [this] at g1
    exact absurd g1 (by simp)
  have hload := sums_load hb W.each hrl r.length 0 [] s' (by omega) (by omega) (by simp) (by simp) (fun j _ => rfl) (by rw [List.drop_zero]; exact h1)
  refine ⟨r, s', ⟨411 + l.length, fun k hk => hev k (by omega)⟩, h1, c1, c2, hrl, by simpa using h3, h4, hload.2, fun q t hq ht => ?_, by omega⟩
  have hle : s'.length ≤ t.length := by
    refine Classical.byContradiction fun hc => ?_
    obtain ⟨r', g1, _⟩ := find_least (m := ((t.length : Nat) : Int)) hb l W.each l [] q t 0 rfl hq (by simp) ht (Int.le_refl _)
    have := hmin t.length (by omega) (by omega)
    rw [this] at g1
    exact absurd g1 (by simp)
  refine ⟨hle, fun he => ?_⟩
  obtain ⟨r', g1, g2⟩ := find_least (m := (n : Int)) hb l W.each l [] q t 0 rfl hq (by simp) ht (by omega)
  rw [hf] at g1
  rw [Option.some.inj g1]
  exact g2
theorem bars_all {bar : Int} {l : List Int} (D : BarsDrawn bar l) : Fits bar l [] := (bars_fits (drawn_ok D)).2
theorem load_same {ps pl o o2 : List Int} (h1 : o.Pairwise (· ≠ ·)) (h2 : o2.Pairwise (· ≠ ·)) (h : ∀ z, z ∈ o ↔ z ∈ o2) (j : Int) : loadAt ps pl o j = loadAt ps pl o2 j := sum_same _ o o2 h1 h2 h
theorem iota_mem' (n : Nat) (a : Int) : a ∈ iota n ↔ 0 ≤ a ∧ a < (n : Int) := by
  constructor
  · exact iota_mem
  · intro h
    obtain ⟨j, rfl⟩ := Int.eq_ofNat_of_zero_le h.1
    simp only [iota, List.mem_map, List.mem_range]
    exact ⟨j, by omega, rfl⟩
theorem longFirst_ev {bar : Int} {ps : List Int} (D : BarsDrawn bar ps) : Ev (fun k => impl_LongFirst.f k bar ps) (ren [] (fitL bar ps (orderGo ps ps.length 0 []) (List.replicate ps.length 0) [])) := ⟨700, fun k hk => by
  have hb := drawn_ok D
  obtain ⟨hn, W⟩ := bars_fits hb
  have P := pieces_fits hn W
  have ho : ∀ x ∈ orderGo ps ps.length 0 [], 0 ≤ x ∧ x < (ps.length : Int) := fun x hx => by
    rcases orderGo_mem ps ps.length 0 [] x hx with h | h
    · simp at h
    · omega
  have hol : (orderGo ps ps.length 0 []).length = ps.length := by rw [orderGo_len]; simp
  have hpl : (fitL bar ps (orderGo ps ps.length 0 []) (List.replicate ps.length 0) []).length = ps.length := by rw [fitL_len]; simp
  have hbd := fitL_bound bar ps (orderGo ps ps.length 0 []) (List.replicate ps.length 0) [] (by rw [hol]; simpa using hn) (fun x hx => by
    have := List.eq_of_mem_replicate hx
    omega)
  have hg := impl_fit bar ps hn (orderGo ps ps.length 0 []) (by omega) ho W k (by omega)
  generalize fitL bar ps (orderGo ps ps.length 0 []) (List.replicate ps.length 0) [] = p at hpl hbd hg
  have h2 := renum_ren p (by omega) hbd p.length k 0 p [] rfl rfl (by omega) (by omega) (by simp) (by omega)
  rw [List.take_zero, List.drop_zero, List.nil_append, Int.ofNat_zero] at h2
  show impl_LongFirst.f k bar ps = _
  unfold impl_LongFirst.f
  rw [hb, Option.bind_some, if_pos rfl, orderOf_f ps.length hn k (by omega), Option.bind_some, if_pos (by rw [iota_len]; omega), sort_eq ps P k (by omega), Option.bind_some]
  unfold impl_firstFit.f
  rw [hg, Option.bind_some, h2]⟩
theorem firstFit_ev {bar : Int} {ps : List Int} (D : BarsDrawn bar ps) : Ev (fun k => impl_FirstFit.f k bar ps) (fitL bar ps (iota ps.length) (List.replicate ps.length 0) []) ∧ canon 0 (fitL bar ps (iota ps.length) (List.replicate ps.length 0) []) := by
  have hb := drawn_ok D
  obtain ⟨hn, W⟩ := bars_fits hb
  have h1 := (fit_canon bar ps ps.length ps.length 0 (List.replicate ps.length 0) [] (by omega) (by omega) (by simp)).2
  rw [List.drop_zero, List.drop_zero] at h1
  refine ⟨⟨300, fun k hk => ?_⟩, h1⟩
  show impl_FirstFit.f k bar ps = _
  unfold impl_FirstFit.f
  rw [hb, Option.bind_some, if_pos rfl, orderOf_f ps.length hn k (by omega)]
  simp only [Option.bind_some, impl_firstFit.f]
  rw [impl_fit bar ps hn (iota ps.length) (by rw [iota_len]; exact hn) (fun x hx => iota_mem hx) W k (by omega)]
  have hl : (fitL bar ps (iota ps.length) (List.replicate ps.length 0) []).length = ps.length := by rw [fitL_len]; simp
  have h2 := canon_renum _ (by rw [hl]; exact hn) _ k 0 0 rfl (by omega) (by omega) h1 (by rw [hl]; omega)
  have h3 : renum k (fitL bar ps (iota ps.length) (List.replicate ps.length 0) []) [] 0 = some (fitL bar ps (iota ps.length) (List.replicate ps.length 0) []) := h2
  simp only [Option.bind_some, h3]
/-- First fit's plan: its sums, its bars. -/
theorem first_facts {bar : Int} {l : List Int} (D : BarsDrawn bar l) : ∃ (f s : List Int), Ev (fun k => impl_FirstFit.f k bar l) f ∧ f.length = l.length ∧ canon 0 f ∧ canonEnd 0 f = s.length ∧ sumsGo bar l f 0 [] = some s ∧ tightGo bar l s f 0 = true ∧ (∀ low : Int, l.sum ≤ low * bar → (s.length : Int) ≤ 2 * low) := by
  have W := bars_all D
  have hb : 1 ≤ bar ∧ bar ≤ 1000 := W.bar_ok
  obtain ⟨hev, hc⟩ := firstFit_ev D
  obtain ⟨S, hd, T, H, _, P⟩ := run_fit W False (iota l.length) (fun i hi => iota_mem hi) (iota_nd _) (fun h => h.elim)
  have hl : (fitL bar l (iota l.length) (List.replicate l.length 0) []).length = l.length := by rw [fitL_len]; simp
  generalize fitL bar l (iota l.length) (List.replicate l.length 0) [] = f at hev hc T H P hl
  have hloads : ∀ j : Nat, loadAt l f (iota l.length) (j : Int) ≤ bar := fun j => by
    by_cases hj : j < S
    · exact P.fits j hj
    · rw [load_zero fun i hi => by have := T.on i hi; omega]
      omega
  obtain ⟨s, h1, h2, h3⟩ := sums_all hb D.2.2 hl hloads hc
  have hS : canonEnd 0 f = S := canon_end_eq (ps := l) hl hc (fun x hx => by
    obtain ⟨i, hi, rfl⟩ := mem_rd hx
    rw [hl] at hi
    exact T.on i hi) (fun j hj => by
    rw [← H.at_ j hj]
    exact rd_of_iota hl (H.mem j hj))
  refine ⟨f, s, hev, hl, hc, h2.symm, h1, ?_, fun low hlow => ?_⟩
  · refine tightGo_true bar l s f 0 fun q hq x hx => ?_
    obtain ⟨j, hj, rfl⟩ := List.mem_iff_getElem.mp hx
    have hq2 : ((q : Nat) : Int) ∈ iota l.length := (iota_mem' _ _).mpr (by omega)
    have e := rd_get f q hq
    have ho := T.on _ hq2
    rw [e] at ho
    rw [List.length_take] at hj
    have h4 := T.full (q : Int) hq2 j (by rw [e]; omega)
    have h5 := h3 j (by omega)
    rw [rd_get s j (by omega)] at h5
    rw [List.getElem_take, Nat.zero_add]
    omega
  · rw [h2, hS]
    refine first_bound T H hb.1 low ?_
    rw [iota_map]
    exact hlow
/-- Longest first: its plan, numbered anew, is a plan; its bars are near to any other's. -/
theorem long_facts {bar : Int} {l : List Int} (D : BarsDrawn bar l) : ∃ (g s : List Int), Ev (fun k => impl_LongFirst.f k bar l) g ∧ g.length = l.length ∧ canon 0 g ∧ canonEnd 0 g = s.length ∧ sumsGo bar l g 0 [] = some s ∧ (∀ (c : List Int) (N : Nat), Plan bar l (iota l.length) c N → 9 * s.length ≤ 11 * N + 6) := by
  have W := bars_all D
  have hb : 1 ≤ bar ∧ bar ≤ 1000 := W.bar_ok
  have hev := longFirst_ev D
  obtain ⟨of1, of2⟩ := order_facts l
  have hnd : (orderGo l l.length 0 []).Pairwise (· ≠ ·) := List.Pairwise.imp (fun {a b} h e => by
    subst e
    have := h.2 rfl
    omega) of1
  have hdesc : (orderGo l l.length 0 []).Pairwise fun a b => rd l b ≤ rd l a := List.Pairwise.imp (fun h => h.1) of1
  have hol : (orderGo l l.length 0 []).length = l.length := by rw [orderGo_len]; simp
  have hsame : ∀ z, z ∈ orderGo l l.length 0 [] ↔ z ∈ iota l.length := fun z => by rw [of2, iota_mem']
  obtain ⟨S, hd, T, H, F, P⟩ := run_fit W True (orderGo l l.length 0 []) (fun i hi => (of2 i).mp hi) hnd (fun _ => hdesc)
  have hl : (fitL bar l (orderGo l l.length 0 []) (List.replicate l.length 0) []).length = l.length := by rw [fitL_len]; simp
  generalize hgo : orderGo l l.length 0 [] = o at hev of1 of2 hnd hdesc hol hsame T H F P hl
  generalize fitL bar l o (List.replicate l.length 0) [] = p at hev T H F P hl
  have hpS : ∀ x ∈ p, 0 ≤ x ∧ x < (S : Int) := fun x hx => by
    obtain ⟨i, hi, rfl⟩ := mem_rd hx
    rw [hl] at hi
    exact T.on i ((hsame i).mpr hi)
  have hSp : ∀ j : Nat, j < S → (j : Int) ∈ p := fun j hj => by
    rw [← H.at_ j hj]
    exact rd_of_iota hl ((hsame _).mp (H.mem j hj))
  have hnl : (growAll [] p).length = S := by
    have h1 := len_sub (E := growAll [] p) (o := iota S) (growAll_nd p [] List.nodup_nil) (fun x hx => by
      rw [growAll_mem] at hx
      rcases hx with h | h
      · simp at h
      · exact (iota_mem' _ _).mpr (hpS x h))
    have h2 := len_sub (E := iota S) (o := growAll [] p) (iota_nd S) (fun x hx => by
      have := iota_mem hx
      obtain ⟨j, rfl⟩ := Int.eq_ofNat_of_zero_le this.1
      rw [growAll_mem]
      exact .inr (hSp j (by omega)))
    rw [iota_len] at h1 h2
    omega
  have hrl : (ren [] p).length = l.length := by rw [ren_map, List.length_map, hl]
  obtain ⟨hc, hce⟩ := ren_canon p []
  have hloads : ∀ j : Nat, loadAt l (ren [] p) (iota l.length) (j : Int) ≤ bar := fun j => by
    by_cases hj : j < (growAll [] p).length
    · rw [ren_load hl j hj, ← load_same hnd (iota_nd _) hsame]
      have hm : (growAll [] p)[j] ∈ growAll [] p := List.getElem_mem hj
      rw [growAll_mem] at hm
      rcases hm with h | h
      · simp at h
      · have hx := hpS _ h
        have := P.fits ((growAll [] p)[j]).toNat (by omega)
        rw [Int.toNat_of_nonneg hx.1] at this
        exact this
    · rw [ren_load0 hl j (by omega)]
      omega
  obtain ⟨s, h1, h2, h3⟩ := sums_all hb D.2.2 hrl hloads hc
  refine ⟨ren [] p, s, hev, hrl, hc, h2.symm, h1, fun c N Q => ?_⟩
  have e : s.length = S := by rw [h2]; exact hce.trans hnl
  rw [e]
  exact long_bound T H (F trivial) (c := c) ⟨fun i hi => Q.on i ((hsame i).mp hi), fun j hj => by rw [load_same hnd (iota_nd _) hsame]; exact Q.fits j hj⟩ (by rw [hol]; exact D.2.1)
theorem plan_ok {bar : Int} {l r s : List Int} (D : BarsDrawn bar l) (hr : r.length = l.length) (h : sumsGo bar l r 0 [] = some s) : Ev (fun k => impl_BarPlanOk.f k bar l r) true ∧ planOk bar l r = true := by
  have hb := drawn_ok D
  rw [barsOk_impl] at hb
  have hp : planOk bar l r = true := by
    unfold planOk
    rw [Option.some.inj hb, decide_eq_true hr, h]
    rfl
  have hl := D.2.1
  exact ⟨⟨100, fun k hk => by
    show impl_BarPlanOk.f k bar l r = _
    rw [plan_impl bar l r (by omega) k (by omega), hp]⟩, hp⟩
theorem tight_ev {bar : Int} {l r s : List Int} (D : BarsDrawn bar l) (hr : r.length = l.length) (hc : canon 0 r) (he : canonEnd 0 r = s.length) (h : sumsGo bar l r 0 [] = some s) (ht : tightGo bar l s r 0 = true) : Ev (fun k => impl_IsTightPlan.f k bar l r) true := ⟨400, fun k hk => by
  have hl := D.2.1
  have hb := D.1
  show impl_IsTightPlan.f k bar l r = _
  unfold impl_IsTightPlan.f
  rw [plan_impl bar l r (by omega) k (by omega), (plan_ok D hr h).2]
  simp only [Option.bind_some, if_true]
  rw [sums_impl bar l r (by omega) k (by omega), if_pos hr, h]
  simp only [Option.bind_some]
  have hok := sumsGo_ok bar l (by omega) D.2.2 r 0 [] s (by omega) (by simp) h
  have hsl := sumsGo_len bar l r 0 [] s h
  simp only [List.length_nil] at hsl
  have := tight_impl_l bar (by omega) l s r D.2.2 hok.2.2 hr (by omega) (by omega) hok.2.1 r.length k 0 (by omega) (by omega) (by omega)
  rw [List.drop_zero, ht] at this
  exact this⟩
theorem left_ev {bar : Int} {l r s : List Int} (D : BarsDrawn bar l) (hr : r.length = l.length) (h : sumsGo bar l r 0 [] = some s) : Ev (fun k => impl_LeftOn.f k bar l r) (s.map fun x => bar - x) := ⟨400, fun k hk => by
  have hl := D.2.1
  have hb := D.1
  show impl_LeftOn.f k bar l r = _
  unfold impl_LeftOn.f
  rw [plan_impl bar l r (by omega) k (by omega), (plan_ok D hr h).2]
  simp only [Option.bind_some, if_true]
  rw [sums_impl bar l r (by omega) k (by omega), if_pos hr, h]
  simp only [Option.bind_some]
  have hok := sumsGo_ok bar l (by omega) D.2.2 r 0 [] s (by omega) (by simp) h
  have hsl := sumsGo_len bar l r 0 [] s h
  simp only [List.length_nil] at hsl
  have := left_out_l bar (by omega) s hok.2.2 (by omega) s.length k 0 [] (by omega) (by omega) (by simp) (by omega)
  exact this⟩
theorem sum_map_sub (bar : Int) : ∀ s : List Int, (s.map fun x => bar - x).sum = (s.length : Int) * bar - s.sum
  | [] => by simp
  | a :: t => by
    have := sum_map_sub bar t
    simp only [List.map_cons, List.sum_cons, List.length_cons, Int.natCast_add, Int.add_mul]
    omega
theorem l0_f (bar : Int) (l : List Int) (x9 : Int) (left : List Int) (hl : left.length ≤ 8) (hx : ∀ x ∈ left, 0 ≤ x ∧ x < bar) (hz : (((l.length : Int) == 0) == (x9 == 0)) = true) (d : Nat) : ∀ i : Nat, left.length - i = d → i ≤ left.length → Ev (fun k => laws_FnBars.l0 k bar l x9 left (left.length : Int) (i : Int)) true := by
  induction d with
  | zero =>
    intro i hd hi
    have hc : Ev (fun k => impl_CountBars.f k ([] : List Int)) 0 := count_canon [] (by simp) trivial
    refine Ev.step (f := fun k => (impl_CountBars.f k ([] : List Int)).bind fun t295 => (if t295 = 0 then (some (((l.length : Int) == 0) == (x9 == 0))) else (some false))) (fun k => ?_) (Ev.bind hc ?_)
    · simp only [laws_FnBars.l0, lt_f (show left.length ≤ i by omega), if_false]
    · simp only [if_true, hz]
      exact Ev.now _
  | succ d ih =>
    intro i hd hi
    have hlt : i < left.length := by omega
    have hv := hx _ (List.getElem_mem hlt)
    refine Ev.step (fun k => ?_) (ih (i + 1) (by omega) (by omega))
    have h1 : ¬ left[i] < 0 := by omega
    have h2 : ¬ left[i] ≥ bar := by omega
    simp only [laws_FnBars.l0, lt_t hlt, nn_t, if_true, rd_get left i hlt, h1, h2, if_false, w1 (show i ≤ 140737488355328 by omega)]
theorem FnBars : laws_FnBars.Pure := by
  intro l0 _ _ _
  show ∃ k, laws_FnBars.f k l0 = some true
  by_cases hbig : (l0.length : Int) > 1048576
  · refine ⟨0, ?_⟩
    unfold laws_FnBars.f
    rw [if_pos hbig]
  obtain ⟨bar, l, HM, D⟩ := make_bars (b := l0) (by omega)
  obtain ⟨f, sf, EF, hfl, hfc, hfe, hfs, hft, hf2⟩ := first_facts D
  obtain ⟨g, sg, EG, hgl, hgc, hge, hgs, hg2⟩ := long_facts D
  obtain ⟨b, s, EB, hbs, hbc, hbe, hbl, hsum, hsx, hsl, hleast, hsn⟩ := best_facts D
  obtain ⟨low, EL, low1, low2, low3⟩ := low_f D
  have h7 := D.2.1
  have hbar := D.1
  have hmf := hleast f sf hfl hfs
  have hmg := hleast g sg hgl hgs
  have hPlan : Plan bar l (iota l.length) b s.length := ⟨fun i hi => by
    have := canon_lt 0 b hbc _ (rd_of_iota hbl hi)
    rw [hbe] at this
    exact this, fun j hj => by
    rw [← hsl j hj, rd_get s j hj]
    exact (hsx _ (List.getElem_mem hj)).2⟩
  have h9 := hg2 b s.length hPlan
  have hsle : l.sum ≤ (s.length : Int) * bar := by
    have := plan_total hPlan
    rw [iota_map] at this
    exact this
  have hlow := low3 s.length hsle
  have hff := hf2 low low1
  have hfn : sf.length ≤ l.length := by have := sumsGo_len bar l f 0 [] sf hfs; simp only [List.length_nil] at this; omega
  have hgn : sg.length ≤ l.length := by have := sumsGo_len bar l g 0 [] sg hgs; simp only [List.length_nil] at this; omega
  -- what each call gives
  have EOK := drawn_ok D
  have EBB : Ev (fun k => impl_BestBars.f k bar l) (b, true) := by
    unfold impl_BestBars.f
    rw [EOK]
    simp only [Option.bind_some, if_true]
    exact Ev.bind EB (Ev.now _)
  have ECb : Ev (fun k => impl_CountBars.f k b) (s.length : Int) := by rw [← hbe]; exact count_canon b (by omega) hbc
  have ECf : Ev (fun k => impl_CountBars.f k f) (sf.length : Int) := by rw [← hfe]; exact count_canon f (by omega) hfc
  have ECg : Ev (fun k => impl_CountBars.f k g) (sg.length : Int) := by rw [← hge]; exact count_canon g (by omega) hgc
  have EFB : Ev (fun k => impl_FewestBars.f k bar l) (s.length : Int) := by
    unfold impl_FewestBars.f
    rw [EOK]
    simp only [Option.bind_some, if_true]
    exact Ev.bind EB (Ev.bind ECb (Ev.now _))
  have EPf := (plan_ok D hfl hfs).1
  have EPg := (plan_ok D hgl hgs).1
  have EPb := (plan_ok D hbl hbs).1
  have ET := tight_ev D hfl hfc hfe hfs hft
  have EBf := before_f f b (by omega)
  have ELe := left_ev D hbl hbs
  have EBd := low2
  -- the last row: what is left on each bar
  have hz : (((l.length : Int) == 0) == ((s.length : Int) == 0)) = true := by
    by_cases e : l.length = 0
    · have e2 : s.length = 0 := by omega
      rw [e, e2]
      rfl
    · have e2 : s.length ≠ 0 := by
        intro e2
        rw [e2] at hsle
        cases l with
        | nil => simp at e
        | cons x t =>
          have h1 := D.2.2 x (by simp)
          have h2 := (sum_le (bar := bar) t (fun y hy => D.2.2 y (by simp [hy]))).1
          rw [List.sum_cons] at hsle
          omega
      rw [beq_eq_false_iff_ne.mpr (show ¬ (l.length : Int) = 0 by omega), beq_eq_false_iff_ne.mpr (show ¬ (s.length : Int) = 0 by omega)]
      rfl
  have hll : (s.map fun x => bar - x).length = s.length := List.length_map _
  have HL0 := l0_f bar l (s.length : Int) (s.map fun x => bar - x) (by rw [hll]; omega) (fun x hx => by
    obtain ⟨y, hy, rfl⟩ := List.mem_map.mp hx
    have := hsx y hy
    omega) hz s.length 0 (by rw [hll]; omega) (by omega)
  have HJ2 : Ev (fun k => laws_FnBars.j2 k bar l (s.length : Int) (s.map fun x => bar - x) false) true := by
    refine Ev.step (fun k => ?_) HL0
    simp only [laws_FnBars.j2, Bool.false_eq_true, if_false]
    rfl
  have hmul : (s.length : Int) * bar ≤ 8 * 1000 := Int.mul_le_mul (by omega) (by omega) (by omega) (by omega)
  have hmul0 : 0 ≤ (s.length : Int) * bar := Int.mul_nonneg (by omega) (by omega)
  have hs0 := (sum_le (bar := bar) l D.2.2).1
  have HJ1 : Ev (fun k => laws_FnBars.j1 k bar l b (s.length : Int) false) true := by
    refine Ev.step (f := fun k => ((impl_LeftOn.f k bar l b).bind fun t289 => (if (t289.length : Int) = (s.length : Int) then ((laws_sum.f k t289).bind fun t292 => ((laws_sum.f k l).bind fun t293 => (laws_FnBars.j2 k bar l (s.length : Int) t289 ((wrap64 (t292 + t293)) != (wrap64 ((s.length : Int) * bar)))))) else (laws_FnBars.j2 k bar l (s.length : Int) t289 true)))) (fun k => ?_) (Ev.bind ELe ?_)
    · simp only [laws_FnBars.j1, Bool.false_eq_true, if_false]
    · have hce : ((s.map fun x => bar - x).length : Int) = (s.length : Int) := by rw [hll]
      simp only [hce, if_true]
      refine Ev.bind (lsum_f _ (by rw [hll]; omega) (fun x hx => by
        obtain ⟨y, hy, rfl⟩ := List.mem_map.mp hx
        have := hsx y hy
        omega)) (Ev.bind (lsum_f l (by omega) (fun x hx => by have := D.2.2 x hx; omega)) ?_)
      have e : (wrap64 ((s.map fun x => bar - x).sum + l.sum) != wrap64 ((s.length : Int) * bar)) = false := by
        rw [sum_map_sub, hsum, show (s.length : Int) * bar - l.sum + l.sum = (s.length : Int) * bar by omega]
        simp
      rw [e]
      exact HJ2
  have HJ0 : Ev (fun k => laws_FnBars.j0 k bar l f g b (s.length : Int) low false) true := by
    have w9 : wrap64 (9 * (sg.length : Int)) = 9 * (sg.length : Int) := w64 (by omega) (by omega)
    have w11 : wrap64 (wrap64 (11 * (s.length : Int)) + 6) = 11 * (s.length : Int) + 6 := by rw [w64 (x := 11 * (s.length : Int)) (by omega) (by omega), w64 (by omega) (by omega)]
    have hd : decide (wrap64 (9 * (sg.length : Int)) > wrap64 (wrap64 (11 * (s.length : Int)) + 6)) = false := by
      rw [w9, w11]
      exact decide_eq_false (by omega)
    refine Ev.step (f := fun k => (if (l.length : Int) > 0 then ((impl_CountBars.f k f).bind fun t286 => (if t286 > (wrap64 (2 * low)) then (laws_FnBars.j1 k bar l b (s.length : Int) true) else ((impl_CountBars.f k g).bind fun t287 => (laws_FnBars.j1 k bar l b (s.length : Int) (decide ((wrap64 (9 * t287)) > (wrap64 ((wrap64 (11 * (s.length : Int))) + 6)))))))) else ((impl_CountBars.f k g).bind fun t288 => (laws_FnBars.j1 k bar l b (s.length : Int) (decide ((wrap64 (9 * t288)) > (wrap64 ((wrap64 (11 * (s.length : Int))) + 6)))))))) (fun k => ?_) ?_
    · simp only [laws_FnBars.j0, Bool.false_eq_true, if_false]
    · by_cases hp : (l.length : Int) > 0
      · simp only [hp, if_true]
        refine Ev.bind ECf ?_
        have hn : ¬ (sf.length : Int) > wrap64 (2 * low) := by
          rw [w64 (by omega) (by omega)]
          omega
        simp only [hn, if_false]
        refine Ev.bind ECg ?_
        simp only [hd]
        exact HJ1
      · simp only [hp, if_false]
        refine Ev.bind ECg ?_
        simp only [hd]
        exact HJ1
  have HF : Ev (fun k => laws_FnBars.f k l0) true := by
    unfold laws_FnBars.f
    simp only [hbig, if_false]
    refine Ev.bind HM (Ev.bind EF (Ev.bind EG (Ev.bind EBB (Ev.bind EFB (Ev.bind EL ?_)))))
    simp only [EOK, Option.bind_some, if_true]
    refine Ev.bind EPf ?_
    simp only [if_true]
    refine Ev.bind EPg ?_
    simp only [if_true]
    refine Ev.bind EPb ?_
    simp only [if_true]
    refine Ev.bind ECb ?_
    have n1 : ¬ (s.length : Int) < low := by omega
    simp only [n1, if_true, if_false]
    refine Ev.bind ECf ?_
    have n2 : ¬ (sf.length : Int) < (s.length : Int) := by omega
    simp only [n2, if_false]
    refine Ev.bind ECg ?_
    have n3 : ¬ (sg.length : Int) < (s.length : Int) := by omega
    simp only [n3, if_false]
    refine Ev.bind EBf ?_
    cases hbf : bef f b with
    | true =>
      have hne : ¬ (sf.length : Int) = (s.length : Int) := fun e => by
        have := hmf.2 (by omega)
        rw [this] at hbf
        exact absurd hbf (by simp)
      simp only [if_true]
      refine Ev.bind ECf ?_
      simp only [hne, if_false]
      exact Ev.bind ET HJ0
    | false =>
      simp only [Bool.false_eq_true, if_false]
      exact Ev.bind ET HJ0
  obtain ⟨K, hK⟩ := HF
  exact ⟨K, hK K (Nat.le_refl K)⟩

end Go.Proofs.Ytadloeklhjoohaa.Pure
