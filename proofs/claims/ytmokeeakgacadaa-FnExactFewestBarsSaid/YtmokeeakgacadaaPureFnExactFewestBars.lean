/- FewestBars: the number of bars of the plan that both searches find. -/
import Derived.Test.YtmokeeakgacadaaXFnExactFewestBarsx5
namespace Go.Proofs.Ytmokeeakgacadaa.Pure
open Go.RowKit Go.Proofs.Ytmokeeakgacadaa.XFnExactFewestBars Go.Proofs.YtmokeeakgacadaaW.PrintWords Go.Proofs.YtmokeeakgacadaaW.PrintLast
set_option linter.unusedVariables false
set_option linter.unusedSimpArgs false
theorem wf64 {x : Int} (h : (Lit.int .i64 x).wf = true) : -9223372036854775808 ≤ x ∧ x ≤ 9223372036854775807 := by
  simp only [Lit.wf, IntKind.min, IntKind.max, IntKind.signed, IntKind.bits, Bool.and_eq_true, decide_eq_true_eq, if_true] at h
  omega
theorem w64 {x : Int} (h0 : -9223372036854775808 ≤ x) (h1 : x ≤ 9223372036854775807) : wrap64 x = x := by
  unfold wrap64
  omega
theorem succ_of {d k : Nat} (h : d < k) : ∃ m, k = m + 1 := ⟨k - 1, by omega⟩
theorem rd_nat (l : List Int) (i : Nat) : rd l (i : Int) = l.getD i 0 := by simp [rd]
theorem rd_get (l : List Int) (i : Nat) (h : i < l.length) : rd l (i : Int) = l[i] := by simp [rd, List.getD_eq_getElem?_getD, h]
theorem w1 {i : Nat} (h : i ≤ 140737488355328) : wrap64 ((i : Int) + 1) = ((i + 1 : Nat) : Int) := by
  unfold wrap64
  omega
theorem lt_t {i n : Nat} (h : i < n) : ((i : Int) < (n : Int)) = True := eq_true (by omega)
theorem lt_f {i n : Nat} (h : n ≤ i) : ((i : Int) < (n : Int)) = False := eq_false (by omega)
theorem nn_t (i : Nat) : (0 ≤ (i : Int)) = True := eq_true (by omega)
theorem w64n (n : Nat) (h : n ≤ 9223372036854775807) : wrap64 (n : Int) = (n : Int) := w64 (by omega) (by omega)
theorem w64sub (a b c : Nat) (ha : a ≤ 9223372036854775807) (h : a = b + c) : wrap64 ((a : Int) - (b : Int)) = (c : Int) := by
  rw [w64 (by omega) (by omega)]
  omega

theorem toIntS_l (l : List Int) (hl : l.length ≤ 35184372088832) (d : Nat) : ∀ (k : Nat) (ys : List Int) (i : Nat), l.length - i = d → i ≤ l.length → ys.length = l.length → ys.take i = l.take i → d < k → laws_toIntS.l0 k l ys (i : Int) = some l := by
  induction d with
  | zero =>
    intro k ys i hd hi hy ht hk
    obtain ⟨k, rfl⟩ := succ_of hk
    simp only [laws_toIntS.l0]
    rw [if_neg (by omega)]
    have : i = l.length := by omega
    subst this
    rw [List.take_length, ← hy, List.take_length] at ht
    rw [ht]
  | succ d ih =>
    intro k ys i hd hi hy ht hk
    obtain ⟨k, rfl⟩ := succ_of hk
    simp only [laws_toIntS.l0]
    rw [if_pos (by omega), if_pos (by omega), if_pos (by omega), w1 (by omega), rd_get l i (by omega)]
    refine ih k _ (i + 1) (by omega) (by omega) (by simp [hy]) ?_ (by omega)
    rw [Int.toNat_natCast, List.take_add_one, List.take_add_one, List.take_set_of_le (Nat.le_refl _), ht]
    simp [hy, show i < l.length by omega]
theorem toIntS (l : List Int) (hl : l.length ≤ 35184372088832) (k : Nat) (hk : l.length < k) : laws_toIntS.f k l = some l := by
  unfold laws_toIntS.f
  rw [if_pos (by omega), if_pos (by omega)]
  exact toIntS_l l hl l.length k _ 0 (by omega) (by omega) (by simp) rfl hk
theorem eqIntS_l (l m : List Int) (hl : l.length ≤ 35184372088832) (he : l.length = m.length) (d : Nat) : ∀ (k : Nat) (i : Nat), l.length - i = d → i ≤ l.length → d < k → laws_eqIntS.l0 k l m (i : Int) = some (decide (l.drop i = m.drop i)) := by
  induction d with
  | zero =>
    intro k i hd hi hk
    obtain ⟨k, rfl⟩ := succ_of hk
    simp only [laws_eqIntS.l0]
    rw [if_neg (by omega), List.drop_of_length_le (by omega), List.drop_of_length_le (by omega)]
    simp
  | succ d ih =>
    intro k i hd hi hk
    obtain ⟨k, rfl⟩ := succ_of hk
    simp only [laws_eqIntS.l0]
    rw [if_pos (by omega), if_pos (by omega), if_pos (by omega), w1 (by omega), rd_get l i (by omega), rd_get m i (by omega), ih k (i + 1) (by omega) (by omega) (by omega)]
    have h1 := List.drop_eq_getElem_cons (show i < l.length by omega)
    have h2 := List.drop_eq_getElem_cons (show i < m.length by omega)
    by_cases e : l[i]'(by omega) = m[i]'(by omega)
    · rw [if_pos e, h1, h2]
      simp only [List.cons.injEq, e, true_and]
    · rw [if_neg e, h1, h2]
      simp only [List.cons.injEq, e, false_and, decide_false]
theorem eqIntS (l m : List Int) (hl : l.length ≤ 35184372088832) (k : Nat) (hk : l.length < k) : laws_eqIntS.f k l m = some (decide (l = m)) := by
  unfold laws_eqIntS.f
  by_cases e : l.length = m.length
  · rw [if_pos (by omega)]
    have := eqIntS_l l m hl e l.length k 0 (by omega) (by omega) hk
    simpa using this
  · rw [if_neg (by omega)]
    have : l ≠ m := fun h => e (by rw [h])
    simp [this]

theorem within_f (a b c : Int) : impl_within.f a b c = some (decide (b ≤ a ∧ a ≤ c)) := by
  unfold impl_within.f
  by_cases h : a ≥ b
  · rw [if_pos h]; simp [show b ≤ a from h]
  · rw [if_neg h]; simp [show ¬ b ≤ a from h]
theorem l01In_f (a b c : Int) : spec_l01In.f a b c = some (decide (b ≤ a ∧ a ≤ c)) := by
  unfold spec_l01In.f
  by_cases h : a ≥ b
  · rw [if_pos h]; simp [show b ≤ a from h]
  · rw [if_neg h]; simp [show ¬ b ≤ a from h]

theorem bars_l (bar : Int) (l : List Int) (hl : l.length ≤ 8) (d : Nat) : ∀ (k i : Nat), l.length - i = d → i ≤ l.length → d < k → spec_BarsOk.l0 k bar l (l.length : Int) (i : Int) = some ((l.drop i).all fun p => decide (1 ≤ p ∧ p ≤ bar)) := by
  induction d with
  | zero =>
    intro k i hd hi hk
    obtain ⟨k, rfl⟩ := succ_of hk
    simp only [spec_BarsOk.l0, lt_f (show l.length ≤ i by omega), if_false, List.drop_of_length_le (show l.length ≤ i by omega), List.all_nil]
  | succ d ih =>
    intro k i hd hi hk
    obtain ⟨k, rfl⟩ := succ_of hk
    have hlt : i < l.length := by omega
    have hih := ih k (i + 1) (by omega) (by omega) (by omega)
    rw [List.drop_eq_getElem_cons hlt, List.all_cons]
    simp only [spec_BarsOk.l0, lt_t hlt, nn_t, if_true, rd_get l i hlt, l01In_f, Option.bind_some, w1 (show i ≤ 140737488355328 by omega), hih]
    by_cases g : 1 ≤ l[i] ∧ l[i] ≤ bar
    · simp [g]
    · simp [g]
theorem bars_f (bar : Int) (l : List Int) (k : Nat) (hk : 9 < k) : spec_BarsOk.f k bar l = impl_BarsOk.f bar l := by
  unfold spec_BarsOk.f impl_BarsOk.f
  obtain ⟨k, rfl⟩ := succ_of hk
  simp only [l01In_f, Option.bind_some, spec_BarsOk.j0]
  by_cases h1 : 1 ≤ bar ∧ bar ≤ 1000
  · by_cases h2 : l.length ≤ 8
    · have := bars_l bar l h2 l.length k 0 (by omega) (by omega) (by omega)
      simp only [Int.ofNat_zero, List.drop_zero] at this
      rw [this]
      generalize (l.all fun p => decide (1 ≤ p ∧ p ≤ bar)) = q
      simp [h1, h2, show ¬ (l.length : Int) > 8 by omega]
    · simp [h1, h2, show (l.length : Int) > 8 by omega]
  · simp [h1]

theorem more_of {α : Type} {f : Nat → Option α} (h : ∀ k, LeO (f k) (f (k + 1))) {k : Nat} {r : α} (hr : f k = some r) (K : Nat) (hK : k ≤ K) : f K = some r := by
  obtain ⟨m, rfl⟩ := Nat.exists_eq_add_of_le hK
  clear hK
  induction m with
  | zero => exact hr
  | succ m ih => exact h (k + m) _ ih

theorem snoc_set (l : List Int) (x y : Int) : (l ++ [x]).set l.length y = l ++ [y] := by simp [List.set_append]
def upd (su : List Int) (k : Nat) (p : Int) : List Int := if k < su.length then su.set k (rd su (k : Int) + p) else su ++ [p]
def sumAt (su : List Int) (k : Nat) : Int := if k < su.length then rd su (k : Int) else 0
def find (bar m : Int) : List Int → List Int → Option (List Int)
  | [], _ => some []
  | p :: t, su => (List.range (su.length + 1)).findSome? fun k : Nat => if (k : Int) < m ∧ sumAt su k + p ≤ bar then (find bar m t (upd su k p)).map ((k : Int) :: ·) else none
def findK (bar m p : Int) (t su : List Int) (k : Nat) : Option (List Int) := if (k : Int) < m ∧ sumAt su k + p ≤ bar then (find bar m t (upd su k p)).map ((k : Int) :: ·) else none
theorem find_cons (bar m p : Int) (t su : List Int) : find bar m (p :: t) su = ((List.range (su.length + 1)).drop 0).findSome? (findK bar m p t su) := rfl
theorem range_drop (n j : Nat) (h : j < n) : (List.range n).drop j = j :: (List.range n).drop (j + 1) := by
  rw [List.drop_eq_getElem_cons (by rw [List.length_range]; exact h), List.getElem_range]
theorem upd_old {su : List Int} {k : Nat} (h : k < su.length) (p : Int) : upd su k p = su.set k (rd su (k : Int) + p) := if_pos h
theorem upd_new (su : List Int) (p : Int) : upd su su.length p = su ++ [p] := if_neg (Nat.lt_irrefl _)
theorem sumAt_old {su : List Int} {k : Nat} (h : k < su.length) : sumAt su k = rd su (k : Int) := if_pos h
theorem sumAt_new (su : List Int) : sumAt su su.length = 0 := if_neg (Nat.lt_irrefl _)
theorem upd_len {su : List Int} {k : Nat} (h : k ≤ su.length) (p : Int) : (upd su k p).length = if k < su.length then su.length else su.length + 1 := by
  unfold upd
  split <;> simp
theorem upd_good {bar : Int} {su : List Int} {k : Nat} {p : Int} (h : ∀ x ∈ su, 1 ≤ x ∧ x ≤ bar) (hp : 1 ≤ p) (hf : sumAt su k + p ≤ bar) : ∀ x ∈ upd su k p, 1 ≤ x ∧ x ≤ bar := by
  intro x hx
  unfold upd at hx
  by_cases e : k < su.length
  · rw [if_pos e] at hx
    rcases List.mem_or_eq_of_mem_set hx with hx | hx
    · exact h x hx
    · have h2 := h _ (List.getElem_mem e)
      rw [sumAt_old e] at hf
      rw [rd_get _ _ e] at hx hf
      omega
  · rw [if_neg e, List.mem_append, List.mem_singleton] at hx
    rcases hx with hx | hx
    · exact h x hx
    · unfold sumAt at hf
      rw [if_neg e] at hf
      omega
theorem past_m {bar m p : Int} {t su : List Int} {j : Nat} (h : ¬ (j : Int) < m) (n : Nat) : ((List.range n).drop j).findSome? (findK bar m p t su) = none := by
  rw [List.findSome?_eq_none_iff]
  intro x hx
  obtain ⟨i, hi, rfl⟩ := List.getElem_of_mem hx
  rw [List.getElem_drop, List.getElem_range]
  unfold findK
  rw [if_neg (by omega)]
theorem find_len (bar m : Int) : ∀ (l su r : List Int), find bar m l su = some r → r.length = l.length
  | [], _, r, h => by
    obtain rfl := Option.some.inj (show some [] = some r from h)
    rfl
  | p :: t, su, r, h => by
    obtain ⟨k, _, hk⟩ := List.exists_of_findSome?_eq_some (show (List.range (su.length + 1)).findSome? (findK bar m p t su) = some r from h)
    unfold findK at hk
    split at hk
    · obtain ⟨r2, h2, rfl⟩ := Option.map_eq_some_iff.mp hk
      rw [List.length_cons, List.length_cons, find_len bar m t _ r2 h2]
    · exact absurd hk (by simp)
theorem find_within (bar m : Int) : ∀ (l su r : List Int), find bar m l su = some r → ∀ x ∈ r, 0 ≤ x ∧ x < m
  | [], _, r, h => by
    obtain rfl := Option.some.inj (show some [] = some r from h)
    simp
  | p :: t, su, r, h => by
    obtain ⟨k, _, hk⟩ := List.exists_of_findSome?_eq_some (show (List.range (su.length + 1)).findSome? (findK bar m p t su) = some r from h)
    unfold findK at hk
    split at hk
    · rename_i hc
      obtain ⟨r2, h2, rfl⟩ := Option.map_eq_some_iff.mp hk
      intro x hx
      rcases List.mem_cons.mp hx with hx | hx
      · omega
      · exact find_within bar m t _ r2 h2 x hx
    · exact absurd hk (by simp)
section
variable (bar m : Int) (ps : List Int)
structure PsOk (bar : Int) (ps : List Int) : Prop where
  bar_ok : 1 ≤ bar ∧ bar ≤ 1000
  len : ps.length ≤ 8
  each : ∀ x ∈ ps, 1 ≤ x ∧ x ≤ bar
def PutIs (bar m : Int) (ps : List Int) (K : Nat) (pl su : List Int) : Prop :=
  (∀ r, find bar m (ps.drop pl.length) su = some r → ∃ su', bbs.put K bar ps m pl su = some (true, pl ++ r, su')) ∧ (find bar m (ps.drop pl.length) su = none → bbs.put K bar ps m pl su = some (false, pl, su))
theorem impl_fin_step {p : Int} {pl su : List Int} (hg : ∀ x ∈ su, 1 ≤ x ∧ x ≤ bar) {j : Nat} (hj : j < su.length) (hl : su.length ≤ 8) (K : Nat) : bbs.fin (K + 1) bar ps m pl su p (j : Int) = bbs.lp K bar ps m pl su p ((j + 1 : Nat) : Int) := by
  have h2 := hg _ (List.getElem_mem hj)
  simp only [bbs.fin]
  rw [if_pos (by omega), rd_get su j hj, if_neg (by omega), w1 (by omega)]
theorem impl_lp (W : PsOk bar ps) {p : Int} {t pl su : List Int} (hd : ps.drop pl.length = p :: t) (hpl : pl.length < ps.length) (hsl : su.length ≤ pl.length) (hg : ∀ x ∈ su, 1 ≤ x ∧ x ≤ bar) (N : Nat)
    (ih : ∀ (pl' su' : List Int) (K : Nat), pl'.length = pl.length + 1 → su'.length ≤ pl'.length → (∀ x ∈ su', 1 ≤ x ∧ x ≤ bar) → N < K → PutIs bar m ps K pl' su') (d : Nat) : ∀ (j K : Nat), su.length - j = d → j ≤ su.length → N + 3 * d + 8 < K →
    (∀ r, ((List.range (su.length + 1)).drop j).findSome? (findK bar m p t su) = some r → ∃ su', bbs.lp K bar ps m pl su p (j : Int) = some (true, pl ++ r, su')) ∧ (((List.range (su.length + 1)).drop j).findSome? (findK bar m p t su) = none → bbs.lp K bar ps m pl su p (j : Int) = some (false, pl, su)) := by
  have hb := W.bar_ok
  have h8 := W.len
  have hp := W.each p (List.mem_of_mem_drop (hd ▸ List.mem_cons_self))
  have hd1 : ∀ x : Int, ps.drop (pl ++ [x]).length = t := fun x => by
    rw [List.length_append, List.length_singleton, ← List.drop_drop, hd]
    rfl
  induction d with
  | zero =>
    intro j K hd0 hj hK
    have ej : j = su.length := by omega
    subst ej
    obtain ⟨K, rfl⟩ := succ_of (show 0 < K by omega)
    by_cases c : (su.length : Int) < m
    · obtain ⟨K, rfl⟩ := succ_of (show 0 < K by omega)
      have hi := ih (pl ++ [(su.length : Int)]) (su ++ [p]) K (by simp) (by simp; omega) (fun x hx => by
        rcases List.mem_append.mp hx with hx | hx
        · exact hg x hx
        · rw [List.mem_singleton] at hx
          omega) (by omega)
      unfold PutIs at hi
      rw [hd1] at hi
      have hst : bbs.lp (K + 1 + 1) bar ps m pl su p (su.length : Int) = ((bbs.put K bar ps m (pl ++ [(su.length : Int)]) (su ++ [p])).bind fun t => if t.1 = true then some (true, t.2.1, t.2.2) else (if 0 < t.2.1.length ∧ (su.length : Int) < (t.2.2.length : Int) ∧ t.2.1.length < 1000 then bbs.fin K bar ps m (t.2.1.take (t.2.1.length - 1)) (t.2.2.set (su.length : Int).toNat (wrap64 (rd t.2.2 (su.length : Int) - p))) p (su.length : Int) else none)) := by
        simp only [bbs.lp]
        rw [if_pos (by omega), if_pos (by omega), if_pos c, if_pos trivial]
        simp only [bbs.st]
        rw [if_pos (by simp; omega), rd_get (su ++ [0]) su.length (by simp), List.getElem_append_right (Nat.le_refl _)]
        simp only [Nat.sub_self, List.getElem_cons_zero, Int.zero_add]
        rw [w64 (by omega) (by omega), if_pos (by omega), Int.toNat_natCast, snoc_set]
      have hG : ((List.range (su.length + 1)).drop su.length).findSome? (findK bar m p t su) = (find bar m t (su ++ [p])).map ((su.length : Int) :: ·) := by
        rw [range_drop _ _ (by omega), List.drop_of_length_le (by rw [List.length_range]; omega)]
        simp only [List.findSome?_cons, List.findSome?_nil, findK]
        rw [sumAt_new, upd_new, if_pos ⟨c, by omega⟩]
        cases find bar m t (su ++ [p]) <;> rfl
      rw [hG, hst]
      refine ⟨fun r hr => ?_, fun hn => ?_⟩
      · obtain ⟨r2, h2, rfl⟩ := Option.map_eq_some_iff.mp hr
        obtain ⟨su', h3⟩ := hi.1 r2 h2
        refine ⟨su', ?_⟩
        rw [h3]
        simp
      · have h2 := Option.map_eq_none_iff.mp hn
        rw [hi.2 h2]
        simp only [Option.bind_some, Bool.false_eq_true, if_false]
        rw [if_pos (by simp; omega)]
        obtain ⟨K, rfl⟩ := succ_of (show 0 < K by omega)
        simp only [bbs.fin]
        rw [rd_get (su ++ [p]) su.length (by simp), List.getElem_append_right (Nat.le_refl _)]
        simp only [Nat.sub_self, List.getElem_cons_zero, Int.sub_self]
        rw [w64 (by omega) (by omega), Int.toNat_natCast, snoc_set, if_pos (by simp; omega), rd_get (su ++ [0]) su.length (by simp), List.getElem_append_right (Nat.le_refl _)]
        simp
    · have h0 := past_m (bar := bar) (p := p) (t := t) (su := su) c (su.length + 1)
      rw [h0]
      refine ⟨fun r hr => absurd hr (by simp), fun _ => ?_⟩
      simp only [bbs.lp]
      rw [if_pos (by omega), if_pos (by omega), if_neg c]
  | succ d ihd =>
    intro j K hd0 hj hK
    have hlt : j < su.length := by omega
    have hsj := hg _ (List.getElem_mem hlt)
    obtain ⟨K, rfl⟩ := succ_of (show 0 < K by omega)
    by_cases c : (j : Int) < m
    · obtain ⟨K, rfl⟩ := succ_of (show 0 < K by omega)
      obtain ⟨K, rfl⟩ := succ_of (show 0 < K by omega)
      rw [range_drop _ _ (show j < su.length + 1 by omega), List.findSome?_cons]
      have hnext := ihd (j + 1) K (by omega) (by omega) (by omega)
      have hfin : bbs.fin (K + 1) bar ps m pl su p (j : Int) = bbs.lp K bar ps m pl su p ((j + 1 : Nat) : Int) := impl_fin_step bar m ps hg hlt (by omega) K
      have hlp : bbs.lp (K + 1 + 1 + 1) bar ps m pl su p (j : Int) = bbs.st (K + 1 + 1) bar ps m pl su p (j : Int) := by
        simp only [bbs.lp]
        rw [if_pos (by omega), if_pos (by omega), if_pos c, if_neg (by omega)]
      rw [hlp]
      simp only [bbs.st]
      rw [if_pos (by omega), rd_get su j hlt, w64 (by omega) (by omega)]
      by_cases c2 : su[j] + p ≤ bar
      · rw [if_pos c2, Int.toNat_natCast]
        have hup : upd su j p = su.set j (su[j] + p) := by rw [upd_old hlt, rd_get su j hlt]
        have hk : findK bar m p t su j = (find bar m t (su.set j (su[j] + p))).map ((j : Int) :: ·) := by
          unfold findK
          rw [sumAt_old hlt, rd_get su j hlt, if_pos ⟨c, c2⟩, hup]
        rw [hk]
        have hi := ih (pl ++ [(j : Int)]) (su.set j (su[j] + p)) (K + 1) (by simp) (by simp; omega) (by
          rw [← hup]
          exact upd_good hg hp.1 (by rw [sumAt_old hlt, rd_get su j hlt]; exact c2)) (by omega)
        unfold PutIs at hi
        rw [hd1] at hi
        cases hf : find bar m t (su.set j (su[j] + p)) with
        | some r2 =>
          obtain ⟨su', h3⟩ := hi.1 r2 hf
          refine ⟨fun r hr => ?_, fun hn => absurd hn (by simp)⟩
          obtain rfl := Option.some.inj hr
          refine ⟨su', ?_⟩
          rw [h3]
          simp
        | none =>
          rw [hi.2 hf]
          simp only [Option.map_none, Option.bind_some, Bool.false_eq_true, if_false]
          rw [if_pos (by simp; omega), rd_get _ j (by rw [List.length_set]; exact hlt), List.getElem_set_self, w64 (by omega) (by omega), List.set_set, show su[j] + p - p = su[j] by omega, List.set_getElem_self, show (pl ++ [(j : Int)]).take ((pl ++ [(j : Int)]).length - 1) = pl by simp, hfin]
          exact hnext
      · rw [if_neg c2]
        have hk : findK bar m p t su j = none := by
          unfold findK
          rw [sumAt_old hlt, rd_get su j hlt, if_neg (fun h => c2 h.2)]
        rw [hk, hfin]
        exact hnext
    · have h0 := past_m (bar := bar) (p := p) (t := t) (su := su) c (su.length + 1)
      rw [h0]
      refine ⟨fun r hr => absurd hr (by simp), fun _ => ?_⟩
      simp only [bbs.lp]
      rw [if_pos (by omega), if_pos (by omega), if_neg c]
theorem impl_put (W : PsOk bar ps) (n : Nat) : ∀ (pl su : List Int) (K : Nat), ps.length - pl.length = n → pl.length ≤ ps.length → su.length ≤ pl.length → (∀ x ∈ su, 1 ≤ x ∧ x ≤ bar) → 40 * n + 2 < K → PutIs bar m ps K pl su := by
  have h8 := W.len
  induction n with
  | zero =>
    intro pl su K hn hl hs hg hK
    obtain ⟨K, rfl⟩ := succ_of (show 0 < K by omega)
    unfold PutIs
    rw [List.drop_of_length_le (by omega)]
    refine ⟨fun r hr => ⟨su, ?_⟩, fun h => absurd h (by simp [find])⟩
    obtain rfl := Option.some.inj (show some [] = some r from hr)
    simp only [bbs.put]
    rw [if_pos (by omega), if_pos (by omega), List.append_nil]
  | succ n ih =>
    intro pl su K hn hl hs hg hK
    obtain ⟨K, rfl⟩ := succ_of (show 0 < K by omega)
    have hlt : pl.length < ps.length := by omega
    have hd := List.drop_eq_getElem_cons hlt
    have h := impl_lp bar m ps W hd hlt hs hg (40 * n + 2) (fun pl' su' K' h1 h2 h3 h4 => ih pl' su' K' (by omega) (by omega) h2 h3 h4) su.length 0 K (by omega) (by omega) (by omega)
    unfold PutIs
    rw [hd, find_cons]
    have hput : bbs.put (K + 1) bar ps m pl su = bbs.lp K bar ps m pl su ps[pl.length] ((0 : Nat) : Int) := by
      simp only [bbs.put]
      rw [if_pos (by omega), if_neg (by omega), if_pos hlt, rd_get ps pl.length hlt]
      rfl
    rw [hput]
    exact h
def FindIs (bar m : Int) (ps : List Int) (K : Nat) (i : Nat) (su : List Int) : Prop :=
  (∀ r, find bar m (ps.drop i) su = some r → spec_l18Find.f K bar ps (i : Int) (su.map fun x => bar - x) m = some (r, true)) ∧ (find bar m (ps.drop i) su = none → spec_l18Find.f K bar ps (i : Int) (su.map fun x => bar - x) m = some ([], false))
theorem spec_lp (W : PsOk bar ps) {p : Int} {t su : List Int} {i : Nat} (hd : ps.drop i = p :: t) (hi : i < ps.length) (hsl : su.length ≤ i) (hg : ∀ x ∈ su, 1 ≤ x ∧ x ≤ bar) (N : Nat)
    (ih : ∀ (su' : List Int) (K : Nat), su'.length ≤ i + 1 → (∀ x ∈ su', 1 ≤ x ∧ x ≤ bar) → N < K → FindIs bar m ps K (i + 1) su') (d : Nat) : ∀ (j K : Nat), su.length + 1 - j = d → j ≤ su.length + 1 → N + 3 * d + 8 < K →
    (∀ r, ((List.range (su.length + 1)).drop j).findSome? (findK bar m p t su) = some r → spec_l18Find.l0 K bar ps (i : Int) (su.map fun x => bar - x) m (j : Int) = some (r, true)) ∧ (((List.range (su.length + 1)).drop j).findSome? (findK bar m p t su) = none → spec_l18Find.l0 K bar ps (i : Int) (su.map fun x => bar - x) m (j : Int) = some ([], false)) := by
  have hb := W.bar_ok
  have h8 := W.len
  have hp := W.each p (List.mem_of_mem_drop (hd ▸ List.mem_cons_self))
  have hd1 : ps.drop (i + 1) = t := by rw [← List.drop_drop, hd]; rfl
  have hpi : ps[i] = p := by
    have h := List.drop_eq_getElem_cons hi
    rw [hd] at h
    exact (List.cons.inj h).1.symm
  induction d with
  | zero =>
    intro j K hd0 hj hK
    obtain ⟨K, rfl⟩ := succ_of (show 0 < K by omega)
    obtain ⟨K, rfl⟩ := succ_of (show 0 < K by omega)
    rw [List.drop_of_length_le (by rw [List.length_range]; omega)]
    refine ⟨fun r hr => absurd hr (by simp), fun _ => ?_⟩
    simp only [spec_l18Find.l0, List.length_map]
    rw [if_neg (by omega)]
    simp only [spec_l18Find.j1, Bool.false_eq_true, if_false]
  | succ d ihd =>
    intro j K hd0 hj hK
    have hjl : j ≤ su.length := by omega
    obtain ⟨K, rfl⟩ := succ_of (show 0 < K by omega)
    obtain ⟨K, rfl⟩ := succ_of (show 0 < K by omega)
    obtain ⟨K, rfl⟩ := succ_of (show 0 < K by omega)
    have hnext := ihd (j + 1) K (by omega) (by omega) (by omega)
    by_cases c : (j : Int) < m
    · rw [range_drop _ _ (show j < su.length + 1 by omega), List.findSome?_cons]
      obtain ⟨l2, hl2⟩ : ∃ l2 : List Int, l2 = if j = su.length then (su.map fun x => bar - x) ++ [bar] else su.map fun x => bar - x := ⟨_, rfl⟩
      have hlen2 : j < l2.length := by
        rw [hl2]
        split
        · simp; omega
        · simp; omega
      have hat : rd l2 (j : Int) = bar - sumAt su j := by
        rw [rd_get l2 j hlen2]
        by_cases e : j = su.length
        · subst e
          simp only [hl2, if_true, sumAt_new]
          rw [List.getElem_append_right (by simp)]
          simp
        · simp only [hl2, if_neg e]
          rw [List.getElem_map, sumAt_old (by omega), rd_get su j (by omega)]
      have hl0 : spec_l18Find.l0 (K + 1 + 1 + 1) bar ps (i : Int) (su.map fun x => bar - x) m (j : Int) = spec_l18Find.j2 (K + 1) bar ps (i : Int) (su.map fun x => bar - x) m (j : Int) l2 := by
        simp only [spec_l18Find.l0, List.length_map]
        rw [if_pos (by omega), decide_eq_true c]
        simp only [spec_l18Find.j1, if_true, Option.bind_some, List.length_nil, List.length_map, List.nil_append]
        rw [if_pos (by omega), hl2]
        by_cases e : j = su.length
        · rw [if_pos (by omega), if_pos (by omega), if_pos e]
        · rw [if_neg (by omega), if_neg e]
      rw [hl0]
      simp only [spec_l18Find.j2]
      rw [if_pos (by omega), if_pos (by omega), if_pos (by omega), if_pos (by omega), hat, rd_get ps i hi, hpi, w1 (by omega), w1 (by omega)]
      by_cases c2 : sumAt su j + p ≤ bar
      · have hsg : 0 ≤ sumAt su j := by
          unfold sumAt
          split
          · rename_i e
            rw [rd_get su j e]
            have := hg _ (List.getElem_mem e)
            omega
          · omega
        have hmap : l2.set j (bar - sumAt su j - p) = (upd su j p).map fun x => bar - x := by
          by_cases e : j = su.length
          · subst e
            rw [hl2, if_pos rfl, upd_new, List.map_append, List.map_singleton, sumAt_new]
            have h1 := snoc_set (su.map fun x => bar - x) bar (bar - 0 - p)
            rw [List.length_map] at h1
            rw [h1, Int.sub_zero]
          · rw [hl2, if_neg e, upd_old (by omega), sumAt_old (by omega), List.map_set, Int.sub_sub]
        rw [if_neg (by omega), w64 (by omega) (by omega), Int.toNat_natCast, hmap]
        have hk : findK bar m p t su j = (find bar m t (upd su j p)).map ((j : Int) :: ·) := by
          unfold findK
          rw [if_pos ⟨c, c2⟩]
        rw [hk]
        have hi2 := ih (upd su j p) K (by rw [upd_len hjl]; split <;> omega) (upd_good hg hp.1 c2) (by omega)
        unfold FindIs at hi2
        rw [hd1] at hi2
        cases hf : find bar m t (upd su j p) with
        | some r2 =>
          refine ⟨fun r hr => ?_, fun hn => absurd hn (by simp)⟩
          obtain rfl := Option.some.inj hr
          have hlr := find_len bar m t _ r2 hf
          have hlt : t.length ≤ 8 := by rw [← hd1, List.length_drop]; omega
          rw [hi2.1 r2 hf]
          simp only [Option.bind_some, if_true, List.length_singleton]
          rw [if_pos (by omega)]
          rfl
        | none =>
          rw [hi2.2 hf]
          simp only [Option.map_none, Option.bind_some, Bool.false_eq_true, if_false]
          exact hnext
      · rw [if_pos (by omega)]
        have hk : findK bar m p t su j = none := by
          unfold findK
          rw [if_neg (fun h => c2 h.2)]
        rw [hk]
        exact hnext
    · have h0 := past_m (bar := bar) (p := p) (t := t) (su := su) c (su.length + 1)
      rw [h0]
      refine ⟨fun r hr => absurd hr (by simp), fun _ => ?_⟩
      simp only [spec_l18Find.l0, List.length_map]
      rw [if_pos (by omega), decide_eq_false c]
      simp only [spec_l18Find.j1, Bool.false_eq_true, if_false]
theorem spec_find (W : PsOk bar ps) (n : Nat) : ∀ (i : Nat) (su : List Int) (K : Nat), ps.length - i = n → i ≤ ps.length → su.length ≤ i → (∀ x ∈ su, 1 ≤ x ∧ x ≤ bar) → 40 * n + 2 < K → FindIs bar m ps K i su := by
  have h8 := W.len
  induction n with
  | zero =>
    intro i su K hn hl hs hg hK
    obtain ⟨K, rfl⟩ := succ_of (show 0 < K by omega)
    unfold FindIs
    rw [List.drop_of_length_le (by omega)]
    refine ⟨fun r hr => ?_, fun h => absurd h (by simp [find])⟩
    obtain rfl := Option.some.inj (show some [] = some r from hr)
    simp only [spec_l18Find.f]
    rw [if_pos (by omega)]
  | succ n ih =>
    intro i su K hn hl hs hg hK
    obtain ⟨K, rfl⟩ := succ_of (show 0 < K by omega)
    have hlt : i < ps.length := by omega
    have hd := List.drop_eq_getElem_cons hlt
    have h := spec_lp bar m ps W hd hlt hs hg (40 * n + 2) (fun su' K' h2 h3 h4 => ih (i + 1) su' K' (by omega) (by omega) h2 h3 h4) (su.length + 1) 0 K (by omega) (by omega) (by omega)
    unfold FindIs
    rw [hd, find_cons]
    have hput : spec_l18Find.f (K + 1) bar ps (i : Int) (su.map fun x => bar - x) m = spec_l18Find.l0 K bar ps (i : Int) (su.map fun x => bar - x) m ((0 : Nat) : Int) := by
      simp only [spec_l18Find.f]
      rw [if_neg (by omega)]
      rfl
    rw [hput]
    exact h
theorem sum_set (su : List Int) : ∀ (k : Nat) (h : k < su.length) (y : Int), (su.set k y).sum = su.sum - su[k] + y := by
  induction su with
  | nil => intro k h; simp at h
  | cons a l ih =>
    intro k h y
    cases k with
    | zero =>
      simp only [List.set_cons_zero, List.sum_cons, List.getElem_cons_zero]
      omega
    | succ k =>
      simp only [List.set_cons_succ, List.sum_cons, List.getElem_cons_succ]
      rw [ih k (by simpa using h) y]
      omega
theorem upd_sum {su : List Int} {k : Nat} (p : Int) : (upd su k p).sum = su.sum + p := by
  unfold upd
  split
  · rename_i e
    rw [sum_set su k e, rd_get su k e]
    omega
  · simp
theorem sum_le {bar : Int} : ∀ (su : List Int), (∀ x ∈ su, 1 ≤ x ∧ x ≤ bar) → 0 ≤ su.sum ∧ su.sum ≤ (su.length : Int) * bar
  | [], _ => by simp
  | a :: l, h => by
    have h1 := sum_le l (fun x hx => h x (List.mem_cons_of_mem _ hx))
    have h2 := h a List.mem_cons_self
    rw [List.sum_cons, List.length_cons]
    have h3 : ((l.length + 1 : Nat) : Int) * bar = (l.length : Int) * bar + bar := by rw [Int.natCast_add, Int.add_mul]; simp
    omega
theorem find_sum (M : Nat) (hm : m ≤ (M : Int)) (hb : 0 ≤ bar) : ∀ (l su r : List Int), (∀ x ∈ su, 1 ≤ x ∧ x ≤ bar) → (∀ x ∈ l, 1 ≤ x) → su.length ≤ M → find bar m l su = some r → su.sum + l.sum ≤ (M : Int) * bar
  | [], su, r, hg, _, hl, _ => by
    have h1 := sum_le su hg
    have h2 : (su.length : Int) * bar ≤ (M : Int) * bar := Int.mul_le_mul_of_nonneg_right (by omega) hb
    rw [List.sum_nil]
    omega
  | p :: t, su, r, hg, hp, hl, h => by
    obtain ⟨k, hk0, hk⟩ := List.exists_of_findSome?_eq_some (show (List.range (su.length + 1)).findSome? (findK bar m p t su) = some r from h)
    unfold findK at hk
    split at hk
    · rename_i hc
      obtain ⟨r2, h2, rfl⟩ := Option.map_eq_some_iff.mp hk
      rw [List.mem_range] at hk0
      have h3 := find_sum M hm hb t (upd su k p) r2 (upd_good hg (hp p List.mem_cons_self) hc.2) (fun x hx => hp x (List.mem_cons_of_mem _ hx)) (by rw [upd_len (by omega)]; split <;> omega) h2
      rw [upd_sum] at h3
      rw [List.sum_cons]
      omega
    · exact absurd hk (by simp)
theorem find_some (hb : 1 ≤ bar) : ∀ (l su : List Int), (∀ x ∈ l, 1 ≤ x ∧ x ≤ bar) → ((su.length + l.length : Nat) : Int) ≤ m → ∃ r, find bar m l su = some r
  | [], su, _, _ => ⟨[], rfl⟩
  | p :: t, su, hp, hl => by
    rw [List.length_cons] at hl
    obtain ⟨r, hr⟩ := find_some hb t (su ++ [p]) (fun x hx => hp x (List.mem_cons_of_mem _ hx)) (by rw [List.length_append, List.length_singleton]; omega)
    cases hf : find bar m (p :: t) su with
    | some r2 => exact ⟨r2, rfl⟩
    | none =>
      exfalso
      have h1 := List.findSome?_eq_none_iff.mp (show (List.range (su.length + 1)).findSome? (findK bar m p t su) = none from hf) su.length (by rw [List.mem_range]; omega)
      unfold findK at h1
      have := hp p List.mem_cons_self
      rw [sumAt_new, upd_new, if_pos ⟨by omega, by omega⟩, hr] at h1
      exact absurd h1 (by simp)
end

theorem bound_val (bar : Int) (l : List Int) (W : PsOk bar l) (d : Nat) : ∀ (k i : Nat) (s : Int), l.length - i = d → i ≤ l.length → d < k → 0 ≤ s → s ≤ (i : Int) * bar → s + (l.drop i).sum ≤ (l.length : Int) * bar → spec_BarBound.l0 k bar s l (l.length : Int) (i : Int) = some ((s + (l.drop i).sum + bar - 1).tdiv bar) := by
  have hb := W.bar_ok
  have h8 := W.len
  have hm : (l.length : Int) * bar ≤ 8 * 1000 := Int.mul_le_mul (by omega) hb.2 (by omega) (by omega)
  induction d with
  | zero =>
    intro k i s hd hi hk h0 h1 h2
    obtain ⟨k, rfl⟩ := succ_of hk
    rw [List.drop_of_length_le (by omega)] at h2 ⊢
    rw [List.sum_nil, Int.add_zero] at h2
    simp only [spec_BarBound.l0]
    rw [if_neg (by omega), if_neg (by omega), List.sum_nil, Int.add_zero, w64 (show -9223372036854775808 ≤ s + bar by omega) (by omega), w64 (x := s + bar - 1) (by omega) (by omega)]
    have h3 : 0 ≤ (s + bar - 1).tdiv bar := Int.tdiv_nonneg (by omega) (by omega)
    have h4 : (s + bar - 1).tdiv bar ≤ s + bar - 1 := by
      rw [Int.tdiv_eq_ediv_of_nonneg (by omega)]
      exact Int.ediv_le_self _ (by omega)
    rw [w64 (by omega) (by omega)]
  | succ d ih =>
    intro k i s hd hi hk h0 h1 h2
    obtain ⟨k, rfl⟩ := succ_of hk
    have hlt : i < l.length := by omega
    have hx := W.each _ (List.getElem_mem hlt)
    have hdr : (l.drop i).sum = l[i] + (l.drop (i + 1)).sum := by rw [List.drop_eq_getElem_cons hlt, List.sum_cons]
    rw [hdr] at h2 ⊢
    have hs := (sum_le (bar := bar) (l.drop (i + 1)) (fun x hx => W.each x (List.mem_of_mem_drop hx))).1
    simp only [spec_BarBound.l0]
    rw [if_pos (by omega), if_pos (by omega), if_pos (by omega), rd_get l i hlt, w1 (by omega), w64 (by omega) (by omega)]
    have hmul : ((i + 1 : Nat) : Int) * bar = (i : Int) * bar + bar := by rw [Int.natCast_add, Int.add_mul]; simp
    rw [ih k (i + 1) (s + l[i]) (by omega) (by omega) (by omega) (by omega) (by omega) (by omega)]
    congr 2
    omega
theorem spec_at (bar : Int) (ps : List Int) (W : PsOk bar ps) (m : Nat) (K : Nat) (hK : 400 < K) : (∀ r, find bar m ps [] = some r → spec_l18Find.f K bar ps 0 [] (m : Int) = some (r, true)) ∧ (find bar m ps [] = none → spec_l18Find.f K bar ps 0 [] (m : Int) = some ([], false)) := by
  have h8 := W.len
  exact spec_find bar (m : Int) ps W ps.length 0 [] K (by omega) (by omega) (by simp) (by simp) (by omega)
theorem impl_at (bar : Int) (ps : List Int) (W : PsOk bar ps) (m : Nat) (K : Nat) (hK : 400 < K) : (∀ r, find bar m ps [] = some r → ∃ su', bbs.put K bar ps (m : Int) [] [] = some (true, r, su')) ∧ (find bar m ps [] = none → bbs.put K bar ps (m : Int) [] [] = some (false, [], [])) := by
  have h8 := W.len
  exact impl_put bar (m : Int) ps W ps.length [] [] K (by simp) (by simp) (by simp) (by simp) (by omega)
theorem most_l (bar : Int) (ps : List Int) (W : PsOk bar ps) (d : Nat) : ∀ (m : Nat), ps.length - m = d → m ≤ ps.length → ∃ r, r.length = ps.length ∧ (∀ x ∈ r, 0 ≤ x ∧ x < 9) ∧ ∀ K, 410 + d < K → bbs.most K bar ps (m : Int) = some r ∧ spec_BestBars.l0 K bar ps (m : Int) = some (r, true) := by
  have h8 := W.len
  induction d with
  | zero =>
    intro m hd hm
    obtain ⟨r, hr⟩ := find_some bar (m : Int) W.bar_ok.1 ps [] W.each (by simp; omega)
    refine ⟨r, find_len _ _ _ _ _ hr, fun x hx => by have := find_within _ _ _ _ _ hr x hx; omega, fun K hK => ?_⟩
    obtain ⟨K, rfl⟩ := succ_of (show 0 < K by omega)
    obtain ⟨su', h1⟩ := (impl_at bar ps W m K (by omega)).1 r hr
    simp only [bbs.most, spec_BestBars.l0, h1, (spec_at bar ps W m K (by omega)).1 r hr, Option.bind_some, if_true]
    rw [if_pos (by omega)]
    exact ⟨trivial, rfl⟩
  | succ d ih =>
    intro m hd hm
    cases hf : find bar m ps [] with
    | some r =>
      refine ⟨r, find_len _ _ _ _ _ hf, fun x hx => by have := find_within _ _ _ _ _ hf x hx; omega, fun K hK => ?_⟩
      obtain ⟨K, rfl⟩ := succ_of (show 0 < K by omega)
      obtain ⟨su', h1⟩ := (impl_at bar ps W m K (by omega)).1 r hf
      simp only [bbs.most, spec_BestBars.l0, h1, (spec_at bar ps W m K (by omega)).1 r hf, Option.bind_some, if_true]
      rw [if_pos (by omega)]
      exact ⟨trivial, rfl⟩
    | none =>
      obtain ⟨r, h1, h2, h3⟩ := ih (m + 1) (by omega) (by omega)
      refine ⟨r, h1, h2, fun K hK => ?_⟩
      obtain ⟨K, rfl⟩ := succ_of (show 0 < K by omega)
      simp only [bbs.most, spec_BestBars.l0, (impl_at bar ps W m K (by omega)).2 hf, (spec_at bar ps W m K (by omega)).2 hf, Option.bind_some, Bool.false_eq_true, if_false]
      rw [if_pos (by omega), w1 (by omega)]
      exact h3 K (by omega)
theorem pre_l (bar : Int) (ps : List Int) (W : PsOk bar ps) (b : Nat) (hb : ∀ m : Nat, m < b → (m : Int) * bar < ps.sum) (d : Nat) : ∀ (m K : Nat), b - m = d → m ≤ b → b ≤ 8 → 400 < K → bbs.most (K + d) bar ps (m : Int) = bbs.most K bar ps (b : Int) := by
  induction d with
  | zero =>
    intro m K hd hm h8 hK
    rw [show m = b by omega]
    rfl
  | succ d ih =>
    intro m K hd hm h8 hK
    have hf : find bar m ps [] = none := by
      cases hf : find bar m ps [] with
      | none => rfl
      | some r =>
        exfalso
        have h1 := find_sum bar (m : Int) m (Int.le_refl _) (by have := W.bar_ok; omega) ps [] r (by simp) (fun x hx => (W.each x hx).1) (by simp) hf
        have h2 := hb m (by omega)
        rw [List.sum_nil] at h1
        omega
    rw [show K + (d + 1) = (K + d) + 1 by omega]
    simp only [bbs.most, (impl_at bar ps W m (K + d) (by omega)).2 hf, Option.bind_some, Bool.false_eq_true, if_false]
    rw [w1 (by omega)]
    exact ih (m + 1) K (by omega) (by omega) h8 hK
theorem best_both (bar : Int) (ps : List Int) (W : PsOk bar ps) (hok : impl_BarsOk.f bar ps = some true) : ∃ r, r.length = ps.length ∧ (∀ x ∈ r, 0 ≤ x ∧ x < 9) ∧ ∀ k, 500 < k → impl_bestBars.f k bar ps = some r ∧ spec_BestBars.f k bar ps = some (r, true) := by
  have h8 := W.len
  have hbar := W.bar_ok
  have hs := sum_le ps W.each
  obtain ⟨q, hq⟩ : ∃ q, (ps.sum + bar - 1).tdiv bar = q := ⟨_, rfl⟩
  have hq' : (ps.sum + bar - 1) / bar = q := by rw [← hq, Int.tdiv_eq_ediv_of_nonneg (by omega)]
  have q0 : 0 ≤ q := by rw [← hq']; exact Int.ediv_nonneg (by omega) (by omega)
  have q1 : q * bar ≤ ps.sum + bar - 1 := by
    have := Int.ediv_mul_le (ps.sum + bar - 1) (show bar ≠ 0 by omega)
    rw [hq'] at this
    exact this
  have q2 : q ≤ (ps.length : Int) := by
    have h1 : q < (ps.length : Int) + 1 := by
      rw [← hq']
      refine Int.ediv_lt_of_lt_mul (by omega) ?_
      rw [Int.add_mul]
      omega
    omega
  obtain ⟨b, rfl⟩ := Int.eq_ofNat_of_zero_le q0
  obtain ⟨r, r1, r2, r3⟩ := most_l bar ps W (ps.length - b) b rfl (by omega)
  refine ⟨r, r1, r2, fun k hk => ⟨?_, ?_⟩⟩
  · have h1 := pre_l bar ps W b (fun m hm => by
      have h2 : ((m + 1 : Nat) : Int) * bar ≤ (b : Int) * bar := Int.mul_le_mul_of_nonneg_right (by omega) (by omega)
      have h3 : ((m + 1 : Nat) : Int) * bar = (m : Int) * bar + bar := by rw [Int.natCast_add, Int.add_mul]; simp
      omega) b 0 (k - b) (by omega) (by omega) (by omega) (by omega)
    rw [show k - b + b = k by omega] at h1
    exact h1.trans (r3 (k - b) (by omega)).1
  · unfold spec_BestBars.f spec_BarBound.f
    rw [bars_f bar ps k (by omega), hok]
    simp only [Option.bind_some, if_true]
    have h1 := bound_val bar ps W ps.length k 0 0 (by omega) (by omega) (by omega) (by omega) (by simp) (by rw [List.drop_zero]; omega)
    rw [List.drop_zero, Int.zero_add, hq] at h1
    have h2 : spec_BarBound.l0 k bar 0 ps (ps.length : Int) 0 = some (b : Int) := h1
    rw [h2, Option.bind_some]
    exact (r3 k (by omega)).2
theorem bars_ps {bar : Int} {ps : List Int} (h : impl_BarsOk.f bar ps = some true) : PsOk bar ps := by
  unfold impl_BarsOk.f at h
  have h := Option.some.inj h
  simp only [Bool.and_eq_true, decide_eq_true_eq, List.all_eq_true] at h
  exact ⟨h.1, h.2.1, h.2.2⟩

theorem count_both (l : List Int) (hl : l.length ≤ 8) (hw : ∀ x ∈ l, 0 ≤ x ∧ x < 9) (d : Nat) : ∀ (k : Nat) (m : Int) (i : Nat), l.length - i = d → i ≤ l.length → d < k → -1 ≤ m → m ≤ 100 → ∃ r, spec_CountBars.l0 k (m + 1) l (l.length : Int) (i : Int) = some r ∧ impl_CountBars.l0 k m l (l.length : Int) (i : Int) = some r := by
  induction d with
  | zero =>
    intro k m i hd hi hk h0 h1
    obtain ⟨k, rfl⟩ := succ_of hk
    refine ⟨m + 1, ?_, ?_⟩
    · simp only [spec_CountBars.l0]
      rw [if_neg (by omega)]
    · simp only [impl_CountBars.l0]
      rw [if_neg (by omega), w64 (by omega) (by omega)]
  | succ d ih =>
    intro k m i hd hi hk h0 h1
    obtain ⟨k, rfl⟩ := succ_of hk
    have hlt : i < l.length := by omega
    have hx := hw _ (List.getElem_mem hlt)
    simp only [spec_CountBars.l0, impl_CountBars.l0, spec_l01In.f, impl_within.f, lt_t hlt, nn_t, if_true, w1 (show i ≤ 140737488355328 by omega), rd_get l i hlt]
    generalize l[i] = x at hx
    simp only [ge_iff_le, hx.1, show x ≤ 100 by omega, decide_true, if_true, Option.bind_some]
    rw [w64 (by omega) (by omega)]
    have hm : mx (m + 1) (x + 1) = mx m x + 1 := by unfold mx; split <;> split <;> omega
    rw [hm]
    have hb : -1 ≤ mx m x ∧ mx m x ≤ 100 := by unfold mx; split <;> omega
    exact ih k (mx m x) (i + 1) (by omega) (by omega) (by omega) hb.1 hb.2
theorem fewest_eq (bar : Int) (ps : List Int) (k : Nat) (hk : 500 < k) : ∃ r, spec_FewestBars.f k bar ps = some r ∧ impl_FewestBars.f k bar ps = some r := by
  obtain ⟨t, ht⟩ : ∃ t, impl_BarsOk.f bar ps = some t := ⟨_, rfl⟩
  cases t with
  | false =>
    refine ⟨-1, ?_, ?_⟩
    · unfold spec_FewestBars.f spec_BestBars.f
      rw [bars_f bar ps k (by omega), ht]
      rfl
    · unfold impl_FewestBars.f
      rw [ht]
      rfl
  | true =>
    have W := bars_ps ht
    have h8 := W.len
    obtain ⟨r, h1, h2, h3⟩ := best_both bar ps W ht
    obtain ⟨n, n1, n2⟩ := count_both r (by omega) h2 r.length k (-1) 0 (by omega) (by omega) (by omega) (by omega) (by omega)
    have n1' : spec_CountBars.f k r = some n := n1
    have n2' : impl_CountBars.f k r = some n := n2
    refine ⟨n, ?_, ?_⟩
    · unfold spec_FewestBars.f
      rw [(h3 k hk).2, Option.bind_some]
      simp only [if_true, n1', Option.bind_some]
    · unfold impl_FewestBars.f
      rw [ht, Option.bind_some, if_pos rfl, (h3 k hk).1, Option.bind_some, n2', Option.bind_some]
theorem FnExactFewestBars : laws_FnExactFewestBars.Pure := by
  intro bar l _ _ _ _
  refine ⟨2097160, ?_⟩
  unfold laws_FnExactFewestBars.f
  by_cases hbig : (l.length : Int) > 1048576
  · rw [if_pos hbig]
  rw [if_neg hbig]
  obtain ⟨r, h1, h2⟩ := fewest_eq bar l 2097160 (by omega)
  rw [toIntS l (by omega) _ (by omega)]
  simp only [Option.bind_some, h1, h2, if_true, eqIntS l l (by omega) 2097160 (by omega), decide_true]

end Go.Proofs.Ytmokeeakgacadaa.Pure
