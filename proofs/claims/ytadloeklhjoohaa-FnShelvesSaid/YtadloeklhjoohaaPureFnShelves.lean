/- FnShelves: what the great law asks of shelves: pieces do not overlap, lie within the strip, and the shelves are not higher than their bound. -/
import Derived.Test.YtadloeklhjoohaaXFnShelvesx7
namespace Go.Proofs.Ytadloeklhjoohaa.Pure
open Go.RowKit Go.WideShapes Go.Proofs.Ytadloeklhjoohaa.XFnShelves Go.Proofs.YtadloeklhjoohaaW.PrintWords Go.Proofs.YtadloeklhjoohaaW.PrintLast
set_option linter.unusedVariables false
set_option linter.unusedSimpArgs false
theorem w64 {x : Int} (h0 : -9223372036854775808 ≤ x) (h1 : x ≤ 9223372036854775807) : wrap64 x = x := by
  unfold wrap64
  omega
theorem succ_of {d k : Nat} (h : d < k) : ∃ m, k = m + 1 := ⟨k - 1, by omega⟩
theorem rd_get (l : List Int) (i : Nat) (h : i < l.length) : rd l (i : Int) = l[i] := by simp [rd, List.getD_eq_getElem?_getD, h]
theorem w1 {i : Nat} (h : i ≤ 140737488355328) : wrap64 ((i : Int) + 1) = ((i + 1 : Nat) : Int) := by
  unfold wrap64
  omega
theorem lt_t {i n : Nat} (h : i < n) : ((i : Int) < (n : Int)) = True := eq_true (by omega)
theorem lt_f {i n : Nat} (h : n ≤ i) : ((i : Int) < (n : Int)) = False := eq_false (by omega)
theorem nn_t (i : Nat) : (0 ≤ (i : Int)) = True := eq_true (by omega)
theorem within_f (a b c : Int) : impl_within.f a b c = some (decide (b ≤ a ∧ a ≤ c)) := by
  unfold impl_within.f
  by_cases h : a ≥ b
  · rw [if_pos h]; simp [show b ≤ a from h]
  · rw [if_neg h]; simp [show ¬ b ≤ a from h]
theorem rdL_get (l : List (List Int)) (i : Nat) (h : i < l.length) : rd_L3 l (i : Int) = l[i] := by simp [rd_L3, List.getD_eq_getElem?_getD, h]
theorem fit_two {w : Int} {l : List (List Int)} (h : impl_PiecesFit.f w l = some true) : (1 ≤ w ∧ w ≤ 100) ∧ l.length ≤ 12 ∧ ∀ p ∈ l, p.length = 2 ∧ (1 ≤ rd p 0 ∧ rd p 0 ≤ w) ∧ (1 ≤ rd p 1 ∧ rd p 1 ≤ 100) := by
  unfold impl_PiecesFit.f at h
  simp only [Option.some.injEq, Bool.and_eq_true, decide_eq_true_eq, List.all_eq_true] at h
  obtain ⟨h1, ⟨h2, h3⟩, h4⟩ := h
  refine ⟨h1, h2, fun p hp => ?_⟩
  have a := h3 p hp
  have b := h4 p hp
  simp only [pieceOk, fitsIn, decide_eq_true_eq] at a b
  omega
def iota (n : Nat) : List Int := (List.range n).map fun j : Nat => (j : Int)
theorem iota_len (n : Nat) : (iota n).length = n := by simp [iota]
theorem iota_snoc (n : Nat) : iota n ++ [(n : Int)] = iota (n + 1) := by simp [iota, List.range_succ]
theorem iota_drop (n i : Nat) (h : i < n) : (iota n).drop i = (i : Int) :: (iota n).drop (i + 1) := by
  rw [List.drop_eq_getElem_cons (by rw [iota_len]; exact h)]
  simp [iota]
def ht (l : List (List Int)) (i : Int) : Int := rd (rd_L3 l i) 1
def posGo (l : List (List Int)) (S : List Int) (x : Int) : Nat → Nat
  | 0 => 0
  | k + 1 => if ht l (rd S (k : Int)) < ht l x then posGo l S x k else k + 1
theorem posGo_le (l : List (List Int)) (S : List Int) (x : Int) : ∀ k, posGo l S x k ≤ k
  | 0 => Nat.le_refl _
  | k + 1 => by
    unfold posGo
    split
    · have := posGo_le l S x k; omega
    · exact Nat.le_refl _
def insAt (S : List Int) (x : Int) (p : Nat) : List Int := S.take p ++ x :: S.drop p
theorem insAt_len (S : List Int) (x : Int) (p : Nat) : (insAt S x p).length = S.length + 1 := by
  simp [insAt, List.length_take, List.length_drop]
  omega
theorem insAt_mem {S : List Int} {x : Int} {p : Nat} {y : Int} (h : y ∈ insAt S x p) : y = x ∨ y ∈ S := by
  unfold insAt at h
  rw [List.mem_append, List.mem_cons] at h
  rcases h with h | h | h
  · exact .inr (List.mem_of_mem_take h)
  · exact .inl h
  · exact .inr (List.mem_of_mem_drop h)
def orderGo (l : List (List Int)) : Nat → Nat → List Int → List Int
  | 0, _, S => S
  | d + 1, i, S => orderGo l d (i + 1) (insAt S (i : Int) (posGo l S (i : Int) S.length))
theorem orderGo_len (l : List (List Int)) : ∀ (d i : Nat) (S : List Int), (orderGo l d i S).length = S.length + d
  | 0, _, _ => rfl
  | d + 1, i, S => by rw [orderGo, orderGo_len l d, insAt_len]; omega
structure Pieces (l : List (List Int)) : Prop where
  len : l.length ≤ 12
  each : ∀ i : Int, 0 ≤ i → i < (l.length : Int) → (rd_L3 l i).length = 2 ∧ 1 ≤ ht l i ∧ ht l i ≤ 100
theorem swap_step (S R : List Int) (x : Int) (j : Nat) (hj : j < S.length) : ((S.take (j + 1) ++ x :: (S.drop (j + 1) ++ R)).set (j + 1) S[j]).set j x = S.take j ++ x :: (S.drop j ++ R) := by
  have h1 : S.take (j + 1) = S.take j ++ [S[j]] := (List.take_append_getElem hj).symm
  have hl : (S.take j).length = j := by rw [List.length_take]; omega
  rw [h1, List.drop_eq_getElem_cons hj]
  generalize S[j] = s
  generalize S.take j = T at hl
  generalize S.drop (j + 1) = D
  subst hl
  simp [List.set_append]
theorem at_pos (S R : List Int) (x : Int) (j : Nat) (hj : j ≤ S.length) : rd (S.take j ++ x :: (S.drop j ++ R)) (j : Int) = x := by
  have hl : (S.take j).length = j := by rw [List.length_take]; omega
  rw [rd_get _ _ (by rw [List.length_append, hl, List.length_cons]; omega), List.getElem_append_right (by omega)]
  simp [hl]
theorem before_pos (S R : List Int) (x : Int) (j : Nat) (hj : j + 1 ≤ S.length) : rd (S.take (j + 1) ++ x :: (S.drop (j + 1) ++ R)) (j : Int) = rd S (j : Int) := by
  have hl : (S.take (j + 1)).length = j + 1 := by rw [List.length_take]; omega
  rw [rd_get _ _ (by rw [List.length_append, hl]; omega), rd_get S j (by omega), List.getElem_append_left (by omega)]
  simp
theorem sort_l1 (l : List (List Int)) (W : Pieces l) (S R : List Int) (hS : ∀ x ∈ S, 0 ≤ x ∧ x < (l.length : Int)) (hSl : S.length + R.length ≤ 20) (x : Int) (hx : 0 ≤ x ∧ x < (l.length : Int)) (n i : Int) (Q : List Int) : ∀ (j k : Nat), j ≤ S.length → j < k → (∀ k', k ≤ k' + j + 1 → slices_insertionSortCmpFunc_int.l0 (byHeight.cf l) k' (S.take (posGo l S x j) ++ x :: (S.drop (posGo l S x j) ++ R)) 0 n (wrap64 (i + 1)) = some Q) → slices_insertionSortCmpFunc_int.l1 (byHeight.cf l) k (S.take j ++ x :: (S.drop j ++ R)) 0 n i (j : Int) = some Q := by
  intro j
  induction j with
  | zero =>
    intro k hj hk hQ
    obtain ⟨k, rfl⟩ := succ_of hk
    simp only [slices_insertionSortCmpFunc_int.l1]
    rw [if_neg (by simp)]
    exact hQ k (by omega)
  | succ j ih =>
    intro k hj hk hQ
    obtain ⟨k, rfl⟩ := succ_of (show 0 < k by omega)
    have hw : wrap64 (((j + 1 : Nat) : Int) - 1) = (j : Int) := by rw [w64 (by omega) (by omega)]; omega
    have hmem : rd S (j : Int) ∈ S := by rw [rd_get S j (by omega)]; exact List.getElem_mem _
    have hr := hS _ hmem
    have he := W.each _ hr.1 hr.2
    have hxe := W.each _ hx.1 hx.2
    have hlen : (S.take (j + 1) ++ x :: (S.drop (j + 1) ++ R)).length = S.length + 1 + R.length := by
      simp [List.length_take, List.length_drop]
      omega
    have hcf : byHeight.cf l x (rd S (j : Int)) = some (ht l (rd S (j : Int)) - ht l x) := by
      unfold byHeight.cf
      rw [if_pos ⟨hx, hr, by omega, by omega⟩]
      congr 1
      exact w64 (by unfold ht at *; omega) (by unfold ht at *; omega)
    simp only [slices_insertionSortCmpFunc_int.l1, hw, hlen, at_pos S R x (j + 1) hj, before_pos S R x j hj, hcf, Option.bind_some, Int.toNat_natCast]
    rw [if_pos (by omega), if_pos (by omega), if_pos (by omega), if_pos (by omega), if_pos (by omega)]
    unfold posGo at hQ
    by_cases c : ht l (rd S (j : Int)) < ht l x
    · rw [if_pos c] at hQ
      rw [if_pos (by omega), rd_get S j (by omega), swap_step S R x j (by omega)]
      exact ih k (by omega) (by omega) (fun k' hk' => hQ k' (by omega))
    · rw [if_neg c] at hQ
      rw [if_neg (by omega)]
      exact hQ k (by omega)
theorem sort_l0 (l : List (List Int)) (W : Pieces l) (d : Nat) : ∀ (k i : Nat) (S : List Int), l.length - i = d → i ≤ l.length → S.length = i → (∀ x ∈ S, 0 ≤ x ∧ x < (l.length : Int)) → 20 * d + 20 < k → slices_insertionSortCmpFunc_int.l0 (byHeight.cf l) k (S ++ (iota l.length).drop i) 0 (l.length : Int) (i : Int) = some (orderGo l d i S) := by
  have hl := W.len
  induction d with
  | zero =>
    intro k i S hd hi hSl hS hk
    obtain ⟨k, rfl⟩ := succ_of (show 0 < k by omega)
    simp only [slices_insertionSortCmpFunc_int.l0, lt_f (show l.length ≤ i by omega), if_false, orderGo]
    rw [List.drop_of_length_le (by rw [iota_len]; omega), List.append_nil]
  | succ d ih =>
    intro k i S hd hi hSl hS hk
    obtain ⟨k, rfl⟩ := succ_of (show 0 < k by omega)
    have hlt : i < l.length := by omega
    simp only [slices_insertionSortCmpFunc_int.l0, lt_t hlt, if_true, orderGo]
    rw [iota_drop l.length i hlt]
    have hR : ((iota l.length).drop (i + 1)).length = l.length - (i + 1) := by rw [List.length_drop, iota_len]
    have := sort_l1 l W S ((iota l.length).drop (i + 1)) hS (by omega) (i : Int) (by omega) (l.length : Int) (i : Int) (orderGo l d (i + 1) (insAt S (i : Int) (posGo l S (i : Int) S.length))) S.length k (Nat.le_refl _) (by omega) (fun k' hk' => by
      rw [w1 (show i ≤ 140737488355328 by omega)]
      have h2 := ih k' (i + 1) (insAt S (i : Int) (posGo l S (i : Int) S.length)) (by omega) (by omega) (by rw [insAt_len]; omega) (fun y hy => by
        rcases insAt_mem hy with h | h
        · rw [h]; omega
        · exact hS y h) (by omega)
      rw [insAt, List.append_assoc, List.cons_append] at h2
      exact h2)
    rw [List.take_length, List.drop_length, List.nil_append] at this
    subst hSl
    exact this
theorem iota_l (n : Nat) (hn : n ≤ 12) (d : Nat) : ∀ (k i : Nat), n - i = d → i ≤ n → d < k → impl_ByHeight.l0 k (n : Int) (iota i) (i : Int) = some (iota n) := by
  induction d with
  | zero =>
    intro k i hd hi hk
    obtain ⟨k, rfl⟩ := succ_of hk
    obtain rfl : i = n := by omega
    simp only [impl_ByHeight.l0, lt_f (Nat.le_refl i), if_false]
  | succ d ih =>
    intro k i hd hi hk
    obtain ⟨k, rfl⟩ := succ_of hk
    have hlt : i < n := by omega
    simp only [impl_ByHeight.l0, lt_t hlt, if_true, iota_len, show (i < 17592186044416) = True from eq_true (by omega), iota_snoc, w1 (show i ≤ 140737488355328 by omega)]
    exact ih k (i + 1) (by omega) (by omega) (by omega)
def fitsAt (st : List (Int × Int)) (wd w : Int) (k : Nat) : Prop := (rdP st (k : Int)).2 + w ≤ wd
instance (st : List (Int × Int)) (wd w : Int) (k : Nat) : Decidable (fitsAt st wd w k) := by unfold fitsAt; infer_instance
def posS (st : List (Int × Int)) (wd w : Int) (s : Nat) : Nat → Nat → Nat
  | 0, k => k
  | d + 1, k => if s ≤ k ∧ fitsAt st wd w k then k else posS st wd w s d (k + 1)
theorem posS_le (st : List (Int × Int)) (wd w : Int) (s : Nat) : ∀ d k, k ≤ posS st wd w s d k ∧ posS st wd w s d k ≤ k + d
  | 0, k => by simp [posS]
  | d + 1, k => by
    unfold posS
    have := posS_le st wd w s d (k + 1)
    split <;> omega
theorem posS_hit (st : List (Int × Int)) (wd w : Int) (s : Nat) : ∀ d k, posS st wd w s d k < k + d → fitsAt st wd w (posS st wd w s d k)
  | 0, k, h => by simp [posS] at h
  | d + 1, k, h => by
    unfold posS at h ⊢
    by_cases c : s ≤ k ∧ fitsAt st wd w k
    · rw [if_pos c]; exact c.2
    · rw [if_neg c] at h ⊢
      exact posS_hit st wd w s d (k + 1) (by omega)
theorem posS_from (st : List (Int × Int)) (wd w : Int) (s n : Nat) (hs : s ≤ n) : ∀ j, j ≤ s → posS st wd w s n 0 = posS st wd w s (n - j) j
  | 0, _ => rfl
  | j + 1, h => by
    rw [posS_from st wd w s n hs j (by omega)]
    obtain ⟨m, hm⟩ : ∃ m, n - j = m + 1 := ⟨n - j - 1, by omega⟩
    rw [hm, posS, if_neg (fun c => by have := c.1; omega), show n - (j + 1) = m by omega]
def stO (out : List S44) (st : List (Int × Int)) (ht p : Int) (at_ : Nat) : List S44 := if at_ < st.length then out.set p.toNat ⟨(rdP st (at_ : Int)).2, (rdP st (at_ : Int)).1⟩ else out.set p.toNat ⟨0, ht⟩
def stS (st : List (Int × Int)) (ht w : Int) (at_ : Nat) : List (Int × Int) := if at_ < st.length then st.set at_ ((rdP st (at_ : Int)).1, (rdP st (at_ : Int)).2 + w) else st ++ [(ht, 0 + w)]
def stH (st : List (Int × Int)) (ht h : Int) (at_ : Nat) : Int := if at_ < st.length then ht else ht + h
theorem stO_len (out : List S44) (st : List (Int × Int)) (ht p : Int) (at_ : Nat) : (stO out st ht p at_).length = out.length := by unfold stO; split <;> simp
def startAt (last : Bool) (n : Nat) : Nat := if last = true then n - 1 else 0
def layF (last : Bool) (wd : Int) (ps : List (List Int)) : List Int → List S44 → List (Int × Int) → Int → List S44 × Int
  | [], out, _, ht => (out, ht)
  | p :: o, out, st, ht => layF last wd ps o (stO out st ht p (posS st wd (rd (rd_L3 ps p) 0) (startAt last st.length) st.length 0)) (stS st ht (rd (rd_L3 ps p) 0) (posS st wd (rd (rd_L3 ps p) 0) (startAt last st.length) st.length 0)) (stH st ht (rd (rd_L3 ps p) 1) (posS st wd (rd (rd_L3 ps p) 0) (startAt last st.length) st.length 0))
structure Strip (wd : Int) (ps : List (List Int)) : Prop where
  wd_ok : 1 ≤ wd ∧ wd ≤ 100
  len : ps.length ≤ 12
  each : ∀ i : Int, 0 ≤ i → i < (ps.length : Int) → (rd_L3 ps i).length = 2 ∧ (1 ≤ rd (rd_L3 ps i) 0 ∧ rd (rd_L3 ps i) 0 ≤ wd) ∧ (1 ≤ rd (rd_L3 ps i) 1 ∧ rd (rd_L3 ps i) 1 ≤ 100)
def StOk (st : List (Int × Int)) : Prop := ∀ x ∈ st, 0 ≤ x.2 ∧ x.2 ≤ 100
theorem rdP_mem {st : List (Int × Int)} {k : Nat} (h : k < st.length) : rdP st (k : Int) ∈ st := by
  have e : rdP st (k : Int) = st[k] := by simp [rdP, List.getD_eq_getElem?_getD, h]
  rw [e]
  exact List.getElem_mem h
theorem stS_ok {st : List (Int × Int)} (h : StOk st) {wd w ht : Int} (hw : 1 ≤ w ∧ w ≤ wd) (hwd : wd ≤ 100) {at_ : Nat} (hf : at_ < st.length → fitsAt st wd w at_) : StOk (stS st ht w at_) := by
  intro x hx
  unfold stS at hx
  by_cases c : at_ < st.length
  · rw [if_pos c] at hx
    rcases List.mem_or_eq_of_mem_set hx with hx | hx
    · exact h x hx
    · have h1 := h _ (rdP_mem c)
      have h2 := hf c
      unfold fitsAt at h2
      subst hx
      exact ⟨by simp only; omega, by simp only; omega⟩
  · rw [if_neg c, List.mem_append, List.mem_singleton] at hx
    rcases hx with hx | hx
    · exact h x hx
    · subst hx
      exact ⟨by simp only; omega, by simp only; omega⟩
theorem stS_len (st : List (Int × Int)) (ht w : Int) (at_ : Nat) : (stS st ht w at_).length ≤ st.length + 1 := by unfold stS; split <;> simp
theorem shv_l1 (ff : Int → Option Int) (wd : Int) (ps : List (List Int)) (W : Strip wd ps) (od : List Int) (out : List S44) (st : List (Int × Int)) (hst : StOk st) (hsl : st.length ≤ 100) (ht : Int) (hht : 0 ≤ ht ∧ ht ≤ 100000) (i p : Int) (p0 : 0 ≤ p) (p1 : p < (ps.length : Int)) (hout : out.length = ps.length) (s K : Nat) (Q : List S44 × Int) (d : Nat) : ∀ k : Nat, k ≤ st.length → st.length - k = d → s ≤ k →
    (∀ k', K ≤ k' → shv.l0 ff k' wd ps od (stO out st ht p (posS st wd (rd (rd_L3 ps p) 0) s d k)) (stS st ht (rd (rd_L3 ps p) 0) (posS st wd (rd (rd_L3 ps p) 0) s d k)) (stH st ht (rd (rd_L3 ps p) 1) (posS st wd (rd (rd_L3 ps p) 0) s d k)) (wrap64 (i + 1)) = some Q) →
    shv.l1 ff (K + d + 1) wd ps od out st ht i p (k : Int) = some Q := by
  obtain ⟨e1, e2, e3⟩ := W.each p p0 p1
  have hwd := W.wd_ok
  induction d with
  | zero =>
    intro k hk hd hs hQ
    have ek : k = st.length := by omega
    subst ek
    rw [Nat.add_zero, shv.l1, if_pos ⟨⟨p0, p1⟩, e1, by omega, by omega, by omega⟩, if_neg (by omega), if_pos rfl]
    have := hQ K (Nat.le_refl _)
    simp only [posS, stO, stS, stH, Nat.lt_irrefl, if_false] at this
    rw [w64 (x := 0 + rd (rd_L3 ps p) 0) (by omega) (by omega), w64 (x := ht + rd (rd_L3 ps p) 1) (by omega) (by omega)]
    exact this
  | succ d ih =>
    intro k hk hd hs hQ
    have hlt : k < st.length := by omega
    have hb := hst _ (rdP_mem hlt)
    rw [show K + (d + 1) + 1 = (K + d + 1) + 1 by omega, shv.l1, if_pos ⟨⟨p0, p1⟩, e1, by omega, by omega, by omega⟩, if_pos (by omega), w64 (x := (rdP st (k : Int)).2 + rd (rd_L3 ps p) 0) (by omega) (by omega)]
    rw [posS] at hQ
    by_cases c : fitsAt st wd (rd (rd_L3 ps p) 0) k
    · rw [if_pos ⟨hs, c⟩] at hQ
      unfold fitsAt at c
      rw [if_neg (by omega)]
      have := hQ (K + d + 1) (by omega)
      simp only [stO, stS, stH, if_pos hlt] at this
      rw [Int.toNat_natCast]
      exact this
    · rw [if_neg (fun h => c h.2)] at hQ
      unfold fitsAt at c
      rw [if_pos (by omega), w1 (by omega)]
      exact ih (k + 1) (by omega) (by omega) (by omega) hQ
theorem stH_le (st : List (Int × Int)) (ht h : Int) (at_ : Nat) (h0 : 0 ≤ h) (h1 : h ≤ 100) : ht ≤ stH st ht h at_ ∧ stH st ht h at_ ≤ ht + 100 := by unfold stH; split <;> omega
theorem shv_l0 (ff : Int → Option Int) (last : Bool) (hff : ∀ n : Nat, n ≤ 100 → ∃ m, ff (n : Int) = some m ∧ mx 0 m = ((startAt last n : Nat) : Int)) (wd : Int) (ps : List (List Int)) (W : Strip wd ps) (od : List Int) (hod : ∀ x ∈ od, 0 ≤ x ∧ x < (ps.length : Int)) (hol : od.length ≤ 12) (d : Nat) : ∀ (k c : Nat) (out : List S44) (st : List (Int × Int)) (ht : Int), od.length - c = d → c ≤ od.length → StOk st → st.length ≤ c → 0 ≤ ht → ht ≤ 100 * (c : Int) → out.length = ps.length → 200 * d < k →
    shv.l0 ff k wd ps od out st ht (c : Int) = some (layF last wd ps (od.drop c) out st ht) := by
  induction d with
  | zero =>
    intro k c out st ht hd hc hst hsl h0 h1 hout hk
    obtain ⟨k, rfl⟩ := succ_of hk
    rw [shv.l0, if_neg (by omega), List.drop_of_length_le (by omega)]
    rfl
  | succ d ih =>
    intro k c out st ht hd hc hst hsl h0 h1 hout hk
    obtain ⟨k, rfl⟩ := succ_of (show 0 < k by omega)
    have hlt : c < od.length := by omega
    have hm := hod _ (List.getElem_mem hlt)
    obtain ⟨e1, e2, e3⟩ := W.each _ hm.1 hm.2
    obtain ⟨m, f1, f2⟩ := hff st.length (by omega)
    have hsn : startAt last st.length ≤ st.length := by unfold startAt; split <;> omega
    rw [shv.l0, if_pos (by omega), if_pos (by omega), f1, Option.bind_some, f2, rd_get od c hlt]
    have hpe := posS_from st wd (rd (rd_L3 ps od[c]) 0) (startAt last st.length) st.length hsn _ (Nat.le_refl _)
    obtain ⟨K, rfl⟩ : ∃ K, k = K + (st.length - startAt last st.length) + 1 := ⟨k - (st.length - startAt last st.length) - 1, by omega⟩
    refine shv_l1 ff wd ps W od out st hst (by omega) ht (by omega) (c : Int) od[c] hm.1 hm.2 hout (startAt last st.length) K _ (st.length - startAt last st.length) (startAt last st.length) hsn rfl (Nat.le_refl _) (fun k' hk' => ?_)
    rw [← hpe]
    have hp := posS_le st wd (rd (rd_L3 ps od[c]) 0) (startAt last st.length) st.length 0
    have hh := posS_hit st wd (rd (rd_L3 ps od[c]) 0) (startAt last st.length) st.length 0
    rw [Nat.zero_add] at hh
    have hH := stH_le st ht (rd (rd_L3 ps od[c]) 1) (posS st wd (rd (rd_L3 ps od[c]) 0) (startAt last st.length) st.length 0) (by omega) (by omega)
    have hL := stS_len st ht (rd (rd_L3 ps od[c]) 0) (posS st wd (rd (rd_L3 ps od[c]) 0) (startAt last st.length) st.length 0)
    rw [w1 (by omega), List.drop_eq_getElem_cons hlt, layF]
    exact ih k' (c + 1) _ _ _ (by omega) (by omega) (stS_ok hst e2 W.wd_ok.2 hh) (by omega) (by omega) (by omega) (by rw [stO_len]; exact hout) (by omega)
theorem orderGo_in (l : List (List Int)) : ∀ (d i : Nat) (S : List Int) (y : Int), y ∈ orderGo l d i S → y ∈ S ∨ ((i : Int) ≤ y ∧ y < (i + d : Nat))
  | 0, _, _, _, h => .inl h
  | d + 1, i, S, y, h => by
    rcases orderGo_in l d (i + 1) _ y h with h | h
    · rcases insAt_mem h with h | h
      · subst h
        exact .inr (by omega)
      · exact .inl h
    · exact .inr (by omega)
theorem strip_of {wd : Int} {ps : List (List Int)} (h : impl_PiecesFit.f wd ps = some true) : Strip wd ps ∧ Pieces ps ∧ impl_PiecesFit.f 100 ps = some true := by
  obtain ⟨h1, h2, h3⟩ := fit_two h
  have he : ∀ i : Int, 0 ≤ i → i < (ps.length : Int) → (rd_L3 ps i).length = 2 ∧ (1 ≤ rd (rd_L3 ps i) 0 ∧ rd (rd_L3 ps i) 0 ≤ wd) ∧ (1 ≤ rd (rd_L3 ps i) 1 ∧ rd (rd_L3 ps i) 1 ≤ 100) := fun i h4 h5 => by
    obtain ⟨m, rfl⟩ := Int.eq_ofNat_of_zero_le h4
    have hm : m < ps.length := by omega
    rw [rdL_get ps m hm]
    exact h3 _ (List.getElem_mem hm)
  refine ⟨⟨h1, h2, he⟩, ⟨h2, fun i h4 h5 => by have := he i h4 h5; unfold ht; omega⟩, ?_⟩
  unfold impl_PiecesFit.f
  have g1 : ps.all pieceOk = true := List.all_eq_true.mpr (fun p hp => by
    have := h3 p hp
    simp only [pieceOk, decide_eq_true_eq]
    omega)
  have g2 : ps.all (fitsIn 100) = true := List.all_eq_true.mpr (fun p hp => by
    have := h3 p hp
    simp only [fitsIn, decide_eq_true_eq]
    omega)
  simp [h2, g1, g2]

theorem order_impl (l : List (List Int)) (W : Pieces l) (k : Nat) (hk : 300 < k) : ((impl_ByHeight.l0 k (l.length : Int) [] 0).bind fun out => if out.length < 20 then slices_insertionSortCmpFunc_int.f (byHeight.cf l) k out 0 (out.length : Int) else none) = some (orderGo l l.length 0 []) := by
  have hl := W.len
  have h1 := iota_l l.length hl l.length k 0 (by omega) (by omega) (by omega)
  have e0 : iota 0 = [] := rfl
  rw [e0, Int.ofNat_zero] at h1
  rw [h1, Option.bind_some, iota_len, if_pos (by omega)]
  unfold slices_insertionSortCmpFunc_int.f
  have hw : wrap64 (0 + 1) = ((1 : Nat) : Int) := w64 (by omega) (by omega)
  rw [hw]
  by_cases hn : l.length = 0
  · obtain ⟨k, rfl⟩ := succ_of (show 0 < k by omega)
    rw [hn]
    simp [slices_insertionSortCmpFunc_int.l0, orderGo, iota]
  · have h2 := sort_l0 l W (l.length - 1) k 1 [0] (by omega) (by omega) rfl (by simp; omega) (by omega)
    have e1 : [0] ++ (iota l.length).drop 1 = iota l.length := by
      have := iota_drop l.length 0 (by omega)
      rw [List.drop_zero] at this
      rw [this]
      rfl
    rw [e1] at h2
    rw [h2]
    obtain ⟨m, hm⟩ : ∃ m, l.length = m + 1 := ⟨l.length - 1, by omega⟩
    rw [hm]
    rfl
theorem lay_impl (ff : Int → Option Int) (last : Bool) (hff : ∀ n : Nat, n ≤ 100 → ∃ m, ff (n : Int) = some m ∧ mx 0 m = ((startAt last n : Nat) : Int)) (wd : Int) (ps : List (List Int)) (h : impl_PiecesFit.f wd ps = some true) (k : Nat) (hk : 3000 < k) : shv.f ff k wd ps = some (layF last wd ps (orderGo ps ps.length 0 []) (List.replicate ps.length ⟨0, 0⟩) [] 0) ∧ impl_ByHeight.f k ps = some (orderGo ps ps.length 0 []) := by
  obtain ⟨W, P, hf⟩ := strip_of h
  have o2 := order_impl ps P k (by omega)
  have hl := W.len
  have hol : (orderGo ps ps.length 0 []).length = ps.length := by rw [orderGo_len]; simp
  have hod : ∀ x ∈ orderGo ps ps.length 0 [], 0 ≤ x ∧ x < (ps.length : Int) := fun x hx => by
    rcases orderGo_in ps ps.length 0 [] x hx with h | h
    · simp at h
    · omega
  have hbh : impl_ByHeight.f k ps = some (orderGo ps ps.length 0 []) := by
    unfold impl_ByHeight.f
    rw [hf, Option.bind_some, if_pos rfl, o2]
  refine ⟨?_, hbh⟩
  unfold shv.f
  rw [h, Option.bind_some, if_pos rfl, if_pos (by omega), Option.bind_some, hbh, Option.bind_some]
  have := shv_l0 ff last hff wd ps W _ hod (by omega) _ k 0 (List.replicate ps.length z44) [] 0 rfl (by omega) (fun x hx => by simp at hx) (by simp) (by omega) (by omega) (by simp) (by omega)
  rw [List.drop_zero] at this
  exact this

/-! Shelves: what layF lays -/
def wdt (ps : List (List Int)) (i : Int) : Int := rd (rd_L3 ps i) 0
theorem rdP_lt (st : List (Int × Int)) (k : Nat) (h : k < st.length) : rdP st (k : Int) = st[k] := by simp [rdP, List.getD_eq_getElem?_getD, h]
theorem rdP_set (st : List (Int × Int)) (k s : Nat) (v : Int × Int) (hk : k < st.length) (hs : s < st.length) : rdP (st.set k v) (s : Int) = if s = k then v else rdP st (s : Int) := by
  rw [rdP_lt _ s (by rw [List.length_set]; exact hs), rdP_lt st s hs, List.getElem_set]
  by_cases e : s = k
  · rw [if_pos e, if_pos e.symm]
  · rw [if_neg e, if_neg (fun h => e h.symm)]
theorem rdP_app (st : List (Int × Int)) (s : Nat) (v : Int × Int) (hs : s < st.length) : rdP (st ++ [v]) (s : Int) = rdP st (s : Int) := by
  rw [rdP_lt _ s (by rw [List.length_append]; omega), rdP_lt st s hs, List.getElem_append_left hs]
theorem rdP_new (st : List (Int × Int)) (v : Int × Int) : rdP (st ++ [v]) (st.length : Int) = v := by
  rw [rdP_lt _ _ (by simp)]
  simp
theorem rd_app (l : List Int) (s : Nat) (v : Int) (hs : s < l.length) : rd (l ++ [v]) (s : Int) = rd l (s : Int) := by
  rw [rd_get _ s (by rw [List.length_append]; omega), rd_get l s hs, List.getElem_append_left hs]
theorem rd_new (l : List Int) (n : Nat) (v : Int) (h : l.length = n) : rd (l ++ [v]) (n : Int) = v := by
  rw [rd_get _ _ (by simp [h])]
  simp [← h]
def sH (hs : List Int) (at_ n : Nat) (h : Int) : List Int := if at_ < n then hs else hs ++ [h]
structure Shs (wd ht : Int) (st : List (Int × Int)) (hs : List Int) : Prop where
  len : hs.length = st.length
  used : ∀ s : Nat, s < st.length → 0 ≤ (rdP st (s : Int)).2 ∧ (rdP st (s : Int)).2 ≤ wd
  bot : ∀ s : Nat, s < st.length → 0 ≤ (rdP st (s : Int)).1 ∧ 1 ≤ rd hs (s : Int) ∧ (rdP st (s : Int)).1 + rd hs (s : Int) ≤ ht
  up : ∀ s t : Nat, s < t → t < st.length → (rdP st (s : Int)).1 + rd hs (s : Int) ≤ (rdP st (t : Int)).1
  ht0 : 0 ≤ ht
theorem stS_old (st : List (Int × Int)) (ht w : Int) (k s : Nat) (hs : s < st.length) : (rdP (stS st ht w k) (s : Int)).1 = (rdP st (s : Int)).1 ∧ (rdP (stS st ht w k) (s : Int)).2 = (rdP st (s : Int)).2 + (if s = k then w else 0) := by
  unfold stS
  by_cases c : k < st.length
  · rw [if_pos c, rdP_set st k s _ c hs]
    by_cases e : s = k
    · subst e; rw [if_pos rfl, if_pos rfl]; exact ⟨rfl, rfl⟩
    · rw [if_neg e, if_neg e]; exact ⟨rfl, by omega⟩
  · rw [if_neg c, rdP_app st s _ hs, if_neg (by omega)]
    exact ⟨rfl, by omega⟩
theorem sH_old (hs : List Int) (k n s : Nat) (h : Int) (hl : hs.length = n) (hs' : s < n) : rd (sH hs k n h) (s : Int) = rd hs (s : Int) := by
  unfold sH
  split
  · rfl
  · exact rd_app hs s h (by omega)
theorem stS_length (st : List (Int × Int)) (ht w : Int) (k : Nat) : (stS st ht w k).length = if k < st.length then st.length else st.length + 1 := by
  unfold stS
  split <;> simp
theorem shs_step {wd ht w h : Int} {st : List (Int × Int)} {hs : List Int} (S : Shs wd ht st hs) (hw : 1 ≤ w ∧ w ≤ wd) (h1 : 1 ≤ h) (k : Nat) (hk : k ≤ st.length) (hf : k < st.length → fitsAt st wd w k) : Shs wd (stH st ht h k) (stS st ht w k) (sH hs k st.length h) := by
  have S0 := S.ht0
  by_cases c : k < st.length
  · have el : (stS st ht w k).length = st.length := by rw [stS_length, if_pos c]
    have eh : sH hs k st.length h = hs := if_pos c
    have et : stH st ht h k = ht := if_pos c
    have hfk := hf c
    unfold fitsAt at hfk
    rw [eh, et]
    refine ⟨by rw [el]; exact S.len, fun s hs' => ?_, fun s hs' => ?_, fun s t hst ht' => ?_, S0⟩
    · rw [el] at hs'
      obtain ⟨e1, e2⟩ := stS_old st ht w k s hs'
      have := S.used s hs'
      by_cases e : s = k
      · subst e; rw [e2, if_pos rfl]; omega
      · rw [e2, if_neg e]; omega
    · rw [el] at hs'
      rw [(stS_old st ht w k s hs').1]
      exact S.bot s hs'
    · rw [el] at ht'
      rw [(stS_old st ht w k s (by omega)).1, (stS_old st ht w k t ht').1]
      exact S.up s t hst ht'
  · have el : (stS st ht w k).length = st.length + 1 := by rw [stS_length, if_neg c]
    have es : stS st ht w k = st ++ [(ht, 0 + w)] := if_neg c
    have eh : sH hs k st.length h = hs ++ [h] := if_neg c
    have et : stH st ht h k = ht + h := if_neg c
    have hnew : rdP (stS st ht w k) (st.length : Int) = (ht, 0 + w) := by rw [es]; exact rdP_new st _
    have hnewh : rd (sH hs k st.length h) (st.length : Int) = h := by rw [eh]; exact rd_new hs _ h S.len
    refine ⟨by rw [el, eh, List.length_append, S.len]; rfl, fun s hs' => ?_, fun s hs' => ?_, fun s t hst ht' => ?_, by rw [et]; omega⟩
    · rw [el] at hs'
      by_cases e : s = st.length
      · subst e; rw [hnew]; simp only; omega
      · obtain ⟨e1, e2⟩ := stS_old st ht w k s (by omega)
        have := S.used s (by omega)
        rw [e2, if_neg (by omega)]; omega
    · rw [el] at hs'
      by_cases e : s = st.length
      · subst e; rw [hnew, hnewh, et]; simp only; omega
      · obtain ⟨e1, e2⟩ := stS_old st ht w k s (by omega)
        have := S.bot s (by omega)
        rw [e1, sH_old hs k _ s h S.len (by omega), et]; omega
    · rw [el] at ht'
      have hs' : s < st.length := by omega
      rw [(stS_old st ht w k s hs').1, sH_old hs k _ s h S.len hs']
      by_cases e : t = st.length
      · subst e
        rw [hnew]
        exact (S.bot s hs').2.2
      · rw [(stS_old st ht w k t (by omega)).1]
        exact S.up s t hst (by omega)
def Pl (ps : List (List Int)) (out : List S44) (st : List (Int × Int)) (hs : List Int) (j : Int) : Prop :=
  ∃ s : Nat, s < st.length ∧ (rd_T44 out j).f1 = (rdP st (s : Int)).1 ∧ 0 ≤ (rd_T44 out j).f0 ∧ (rd_T44 out j).f0 + wdt ps j ≤ (rdP st (s : Int)).2 ∧ ht ps j ≤ rd hs (s : Int)
def Dj (ps : List (List Int)) (out : List S44) (i j : Int) : Prop :=
  (rd_T44 out i).f0 + wdt ps i ≤ (rd_T44 out j).f0 ∨ (rd_T44 out j).f0 + wdt ps j ≤ (rd_T44 out i).f0 ∨ (rd_T44 out i).f1 + ht ps i ≤ (rd_T44 out j).f1 ∨ (rd_T44 out j).f1 + ht ps j ≤ (rd_T44 out i).f1
theorem rdT_set (out : List S44) (p j : Int) (v : S44) (hp : 0 ≤ p) (hj : 0 ≤ j) (hpl : p < (out.length : Int)) : rd_T44 (out.set p.toNat v) j = if j = p then v else rd_T44 out j := by
  obtain ⟨a, rfl⟩ := Int.eq_ofNat_of_zero_le hp
  obtain ⟨b, rfl⟩ := Int.eq_ofNat_of_zero_le hj
  have ha : a < out.length := by omega
  unfold rd_T44
  rw [Int.toNat_natCast, Int.toNat_natCast, List.getD_eq_getElem?_getD, List.getD_eq_getElem?_getD, List.getElem?_set]
  by_cases e : a = b
  · subst e
    rw [if_pos rfl, if_pos ha, if_pos rfl]
    rfl
  · rw [if_neg e, if_neg (fun h => e (by omega))]
theorem stO_at (out : List S44) (st : List (Int × Int)) (ht p : Int) (k : Nat) (j : Int) (hp : 0 ≤ p) (hj : 0 ≤ j) (hpl : p < (out.length : Int)) : (j ≠ p → rd_T44 (stO out st ht p k) j = rd_T44 out j) ∧ (k < st.length → rd_T44 (stO out st ht p k) p = ⟨(rdP st (k : Int)).2, (rdP st (k : Int)).1⟩) ∧ (¬ k < st.length → rd_T44 (stO out st ht p k) p = ⟨0, ht⟩) := by
  unfold stO
  refine ⟨fun hne => ?_, fun c => ?_, fun c => ?_⟩
  · split
    · rw [rdT_set out p j _ hp hj hpl, if_neg hne]
    · rw [rdT_set out p j _ hp hj hpl, if_neg hne]
  · rw [if_pos c, rdT_set out p p _ hp hp hpl, if_pos rfl]
  · rw [if_neg c, rdT_set out p p _ hp hp hpl, if_pos rfl]
theorem pl_old {ps : List (List Int)} {out : List S44} {st : List (Int × Int)} {hs : List Int} {ht_ p w h : Int} {k : Nat} {j : Int} (hl : hs.length = st.length) (hp : 0 ≤ p) (hj : 0 ≤ j) (hpl : p < (out.length : Int)) (hw : 0 ≤ w) (hne : j ≠ p) (P : Pl ps out st hs j) : Pl ps (stO out st ht_ p k) (stS st ht_ w k) (sH hs k st.length h) j := by
  obtain ⟨s, s0, s1, s2, s3, s4⟩ := P
  obtain ⟨e1, e2⟩ := stS_old st ht_ w k s s0
  rw [Pl, (stO_at out st ht_ p k j hp hj hpl).1 hne]
  refine ⟨s, by rw [stS_length]; split <;> omega, by rw [e1]; exact s1, s2, ?_, by rw [sH_old hs k _ s h hl s0]; exact s4⟩
  rw [e2]
  split <;> omega
theorem pl_new {ps : List (List Int)} {out : List S44} {st : List (Int × Int)} {hs : List Int} {wd ht_ p : Int} {k : Nat} (S : Shs wd ht_ st hs) (hp : 0 ≤ p) (hpl : p < (out.length : Int)) (hk : k ≤ st.length) (hh : ∀ s : Nat, s < st.length → ht ps p ≤ rd hs (s : Int)) : Pl ps (stO out st ht_ p k) (stS st ht_ (wdt ps p) k) (sH hs k st.length (ht ps p)) p := by
  obtain ⟨_, o1, o2⟩ := stO_at out st ht_ p k p hp hp hpl
  by_cases c : k < st.length
  · obtain ⟨e1, e2⟩ := stS_old st ht_ (wdt ps p) k k c
    rw [Pl, o1 c]
    refine ⟨k, by rw [stS_length, if_pos c]; exact c, by rw [e1], (S.used k c).1, ?_, by rw [sH_old hs k _ k _ S.len c]; exact hh k c⟩
    rw [e2, if_pos rfl]
    exact Int.le_refl _
  · have ek : k = st.length := by omega
    subst ek
    rw [Pl, o2 c]
    have es : stS st ht_ (wdt ps p) st.length = st ++ [(ht_, 0 + wdt ps p)] := if_neg c
    have eh : sH hs st.length st.length (ht ps p) = hs ++ [ht ps p] := if_neg c
    rw [es, eh]
    refine ⟨st.length, by simp, by rw [rdP_new], Int.le_refl _, by rw [rdP_new]; exact Int.le_refl _, by rw [rd_new hs _ _ S.len]; exact Int.le_refl _⟩
theorem dj_new {ps : List (List Int)} {out : List S44} {st : List (Int × Int)} {hs : List Int} {wd ht_ p : Int} {k : Nat} (S : Shs wd ht_ st hs) (hp : 0 ≤ p) (hpl : p < (out.length : Int)) (hk : k ≤ st.length) (hh : ∀ s : Nat, s < st.length → ht ps p ≤ rd hs (s : Int)) (j : Int) (hj : 0 ≤ j) (hne : j ≠ p) (P : Pl ps out st hs j) : Dj ps (stO out st ht_ p k) j p := by
  obtain ⟨o0, o1, o2⟩ := stO_at out st ht_ p k j hp hj hpl
  obtain ⟨s, s0, s1, s2, s3, s4⟩ := P
  have hb := S.bot s s0
  rw [Dj, o0 hne]
  by_cases c : k < st.length
  · rw [o1 c]
    simp only
    by_cases e : s = k
    · subst e
      exact .inl s3
    · by_cases lt : s < k
      · have := S.up s k lt c
        exact .inr (.inr (.inl (by omega)))
      · have := S.up k s (by omega) s0
        have := hh k c
        exact .inr (.inr (.inr (by omega)))
  · rw [o2 c]
    simp only
    exact .inr (.inr (.inl (by omega)))
theorem dj_old {ps : List (List Int)} {out : List S44} {st : List (Int × Int)} {ht_ p : Int} {k : Nat} {i j : Int} (hp : 0 ≤ p) (hi : 0 ≤ i) (hj : 0 ≤ j) (hpl : p < (out.length : Int)) (h1 : i ≠ p) (h2 : j ≠ p) (D : Dj ps out i j) : Dj ps (stO out st ht_ p k) i j := by
  rw [Dj, (stO_at out st ht_ p k i hp hi hpl).1 h1, (stO_at out st ht_ p k j hp hj hpl).1 h2]
  exact D
def slack (wd : Int) : List (Int × Int) → List Int → Int
  | x :: st, h :: hs => h * (wd - x.2) + slack wd st hs
  | _, _ => 0
theorem slack_set (wd w : Int) : ∀ (st : List (Int × Int)) (hs : List Int) (k : Nat), k < st.length → hs.length = st.length → slack wd (st.set k ((rdP st (k : Int)).1, (rdP st (k : Int)).2 + w)) hs = slack wd st hs - rd hs (k : Int) * w
  | [], _, _, hk, _ => absurd hk (by simp)
  | x :: st, [], _, _, hl => absurd hl (by simp)
  | x :: st, h :: hs, 0, _, _ => by
    have e1 : rdP (x :: st) ((0 : Nat) : Int) = x := rfl
    have e2 : rd (h :: hs) ((0 : Nat) : Int) = h := by simp [rd]
    rw [e1, e2, List.set_cons_zero, slack, slack]
    simp only
    rw [show wd - (x.2 + w) = (wd - x.2) - w by omega, Int.mul_sub h (wd - x.2) w]
    omega
  | x :: st, h :: hs, k + 1, hk, hl => by
    have hk' : k < st.length := by simpa using hk
    have hl' : hs.length = st.length := by simpa using hl
    have e1 : rdP (x :: st) ((k + 1 : Nat) : Int) = rdP st (k : Int) := by simp [rdP]
    have e2 : rd (h :: hs) ((k + 1 : Nat) : Int) = rd hs (k : Int) := by
      rw [rd_get _ (k + 1) (by simp; omega), rd_get _ k (by omega)]
      rfl
    rw [e1, e2, List.set_cons_succ, slack, slack, slack_set wd w st hs k hk' hl']
    omega
theorem slack_app (wd h : Int) (v : Int × Int) : ∀ (st : List (Int × Int)) (hs : List Int), hs.length = st.length → slack wd (st ++ [v]) (hs ++ [h]) = slack wd st hs + h * (wd - v.2)
  | [], [], _ => by simp [slack]
  | [], _ :: _, hl => absurd hl (by simp)
  | _ :: _, [], hl => absurd hl (by simp)
  | x :: st, y :: hs, hl => by
    have hl' : hs.length = st.length := by simpa using hl
    rw [List.cons_append, List.cons_append, slack, slack, slack_app wd h v st hs hl']
    omega
theorem slack_nonneg (wd : Int) : ∀ (st : List (Int × Int)) (hs : List Int), hs.length = st.length → (∀ s : Nat, s < st.length → (rdP st (s : Int)).2 ≤ wd ∧ 0 ≤ rd hs (s : Int)) → 0 ≤ slack wd st hs
  | [], _, _, _ => by simp [slack]
  | _ :: _, [], _, _ => by simp [slack]
  | x :: st, h :: hs, hl, H => by
    have h0 := H 0 (by simp)
    have e1 : rdP (x :: st) ((0 : Nat) : Int) = x := rfl
    have e2 : rd (h :: hs) ((0 : Nat) : Int) = h := by simp [rd]
    rw [e1, e2] at h0
    have hr := slack_nonneg wd st hs (by simpa using hl) (fun s hs' => by
      have := H (s + 1) (by simpa using hs')
      have e1 : rdP (x :: st) ((s + 1 : Nat) : Int) = rdP st (s : Int) := by simp [rdP]
      have e2 : rd (h :: hs) ((s + 1 : Nat) : Int) = rd hs (s : Int) := by
        have hl' : hs.length = st.length := by simpa using hl
        rw [rd_get _ (s + 1) (by simp; omega), rd_get _ s (by omega)]
        rfl
      rw [e1, e2] at this
      exact this)
    rw [slack]
    have := Int.mul_nonneg h0.2 (show 0 ≤ wd - x.2 by omega)
    omega
theorem slack_step {wd ht w h : Int} {st : List (Int × Int)} {hs : List Int} (S : Shs wd ht st hs) (hw : 1 ≤ w) (h1 : 1 ≤ h) (k : Nat) (hk : k ≤ st.length) (hh : ∀ s : Nat, s < st.length → h ≤ rd hs (s : Int)) {A : Int} (HA : A + slack wd st hs ≤ wd * ht) : A + w * h + slack wd (stS st ht w k) (sH hs k st.length h) ≤ wd * stH st ht h k := by
  unfold stS sH stH
  by_cases c : k < st.length
  · rw [if_pos c, if_pos c, if_pos c, slack_set wd w st hs k c S.len]
    have := Int.mul_le_mul_of_nonneg_right (hh k c) (show 0 ≤ w by omega)
    have e : w * h = h * w := Int.mul_comm _ _
    omega
  · rw [if_neg c, if_neg c, if_neg c, slack_app wd h _ st hs S.len, Int.mul_add]
    simp only
    have e1 : h * (wd - (0 + w)) = wd * h - w * h := by rw [show (0 : Int) + w = w by omega, Int.mul_sub, Int.mul_comm h wd, Int.mul_comm h w]
    omega
theorem posS_none (st : List (Int × Int)) (wd w : Int) (s : Nat) : ∀ d k, posS st wd w s d k = k + d → ∀ j, k ≤ j → j < k + d → s ≤ j → ¬ fitsAt st wd w j
  | 0, k, _, j, h1, h2, _ => by omega
  | d + 1, k, h, j, h1, h2, h3 => by
    unfold posS at h
    by_cases c : s ≤ k ∧ fitsAt st wd w k
    · rw [if_pos c] at h; omega
    · rw [if_neg c] at h
      by_cases e : j = k
      · subst e; exact fun hf => c ⟨h3, hf⟩
      · exact posS_none st wd w s d (k + 1) (by omega) j (by omega) (by omega) h3
theorem posS_ge (st : List (Int × Int)) (wd w : Int) (s : Nat) : ∀ d k, posS st wd w s d k < k + d → s ≤ posS st wd w s d k
  | 0, k, h => by simp [posS] at h
  | d + 1, k, h => by
    unfold posS at h ⊢
    by_cases c : s ≤ k ∧ fitsAt st wd w k
    · rw [if_pos c]; exact c.1
    · rw [if_neg c] at h ⊢
      exact posS_ge st wd w s d (k + 1) (by omega)
def areaL (ps : List (List Int)) (l : List Int) : Int := (l.map fun j => wdt ps j * ht ps j).sum
theorem areaL_snoc (ps : List (List Int)) (l : List Int) (p : Int) : areaL ps (l ++ [p]) = areaL ps l + wdt ps p * ht ps p := by simp [areaL]
def RO (ps : List (List Int)) (i j : Int) : Prop := ht ps j ≤ ht ps i ∧ i ≠ j
structure InvA (wd : Int) (ps : List (List Int)) (done : List Int) (out : List S44) (st : List (Int × Int)) (ht_ : Int) (hs : List Int) : Prop where
  S : Shs wd ht_ st hs
  n : out.length = ps.length
  pl : ∀ j ∈ done, Pl ps out st hs j
  dj : ∀ i ∈ done, ∀ j ∈ done, i ≠ j → Dj ps out i j
  ar : areaL ps done + slack wd st hs ≤ wd * ht_
  hd : ∀ s : Nat, s < st.length → ∃ j ∈ done, rd hs (s : Int) = ht ps j
theorem Dj_symm {ps : List (List Int)} {out : List S44} {i j : Int} (h : Dj ps out i j) : Dj ps out j i := by
  rcases h with h | h | h | h
  · exact .inr (.inl h)
  · exact .inl h
  · exact .inr (.inr (.inr h))
  · exact .inr (.inr (.inl h))
def inR (ps : List (List Int)) (p : Int) : Prop := (0 ≤ p ∧ p < (ps.length : Int)) ∧ 1 ≤ ht ps p ∧ 1 ≤ wdt ps p
theorem invA_step {wd : Int} {ps : List (List Int)} {done : List Int} {out : List S44} {st : List (Int × Int)} {ht_ : Int} {hs : List Int} (I : InvA wd ps done out st ht_ hs) (p : Int) (hp : inR ps p) (hw : wdt ps p ≤ wd) (hdone : ∀ j ∈ done, RO ps j p ∧ 0 ≤ j) (k : Nat) (hk : k ≤ st.length) (hf : k < st.length → fitsAt st wd (wdt ps p) k) :
    InvA wd ps (done ++ [p]) (stO out st ht_ p k) (stS st ht_ (wdt ps p) k) (stH st ht_ (ht ps p) k) (sH hs k st.length (ht ps p)) := by
  obtain ⟨⟨p0, p1⟩, hh, hw1⟩ := hp
  have hpl : p < (out.length : Int) := by rw [I.n]; exact p1
  have hhs : ∀ s : Nat, s < st.length → ht ps p ≤ rd hs (s : Int) := fun s hs' => by
    obtain ⟨j, hj, e⟩ := I.hd s hs'
    rw [e]
    exact (hdone j hj).1.1
  refine ⟨shs_step I.S ⟨hw1, hw⟩ hh k hk hf, by rw [stO_len]; exact I.n, fun j hj => ?_, fun i hi j hj hne => ?_, ?_, fun s hs' => ?_⟩
  · rcases List.mem_append.mp hj with hj | hj
    · exact pl_old I.S.len p0 (hdone j hj).2 hpl (by omega) (hdone j hj).1.2 (I.pl j hj)
    · rw [List.mem_singleton.mp hj]
      exact pl_new I.S p0 hpl hk hhs
  · rcases List.mem_append.mp hi with hi | hi
    · rcases List.mem_append.mp hj with hj | hj
      · exact dj_old p0 (hdone i hi).2 (hdone j hj).2 hpl (hdone i hi).1.2 (hdone j hj).1.2 (I.dj i hi j hj hne)
      · rw [List.mem_singleton.mp hj]
        exact dj_new I.S p0 hpl hk hhs i (hdone i hi).2 (hdone i hi).1.2 (I.pl i hi)
    · rw [List.mem_singleton.mp hi] at hne ⊢
      rcases List.mem_append.mp hj with hj | hj
      · exact Dj_symm (dj_new I.S p0 hpl hk hhs j (hdone j hj).2 (hdone j hj).1.2 (I.pl j hj))
      · exact absurd (List.mem_singleton.mp hj).symm hne
  · rw [areaL_snoc]
    exact slack_step I.S hw1 hh k hk hhs I.ar
  · by_cases e : s < st.length
    · obtain ⟨j, hj, e'⟩ := I.hd s e
      exact ⟨j, List.mem_append.mpr (.inl hj), by rw [sH_old hs k _ s _ I.S.len e]; exact e'⟩
    · rw [stS_length] at hs'
      have c : ¬ k < st.length := by intro c; rw [if_pos c] at hs'; omega
      rw [if_neg c] at hs'
      have e : s = st.length := by omega
      subst e
      refine ⟨p, by simp, ?_⟩
      rw [show sH hs k st.length (ht ps p) = hs ++ [ht ps p] from if_neg c]
      exact rd_new hs _ _ I.S.len
theorem lay_A (last : Bool) {wd : Int} {ps : List (List Int)} (hps : ∀ p : Int, 0 ≤ p → p < (ps.length : Int) → 1 ≤ ht ps p ∧ (1 ≤ wdt ps p ∧ wdt ps p ≤ wd)) : ∀ (o done : List Int) (out : List S44) (st : List (Int × Int)) (ht_ : Int) (hs : List Int), InvA wd ps done out st ht_ hs → (∀ p ∈ o, 0 ≤ p ∧ p < (ps.length : Int)) → o.Pairwise (RO ps) → (∀ j ∈ done, 0 ≤ j ∧ ∀ p ∈ o, RO ps j p) →
    ∃ st' hs', InvA wd ps (done ++ o) (layF last wd ps o out st ht_).1 st' (layF last wd ps o out st ht_).2 hs'
  | [], done, out, st, ht_, hs, I, _, _, _ => ⟨st, hs, by rw [List.append_nil]; exact I⟩
  | p :: o, done, out, st, ht_, hs, I, hr, hp, hd => by
    obtain ⟨r0, r1⟩ := hr p (by simp)
    obtain ⟨q1, q2, q3⟩ := hps p r0 r1
    obtain ⟨p1, p2⟩ := List.pairwise_cons.mp hp
    have hle := posS_le st wd (wdt ps p) (startAt last st.length) st.length 0
    have hit := posS_hit st wd (wdt ps p) (startAt last st.length) st.length 0
    rw [Nat.zero_add] at hle hit
    have I' := invA_step I p ⟨⟨r0, r1⟩, q1, q2⟩ q3 (fun j hj => ⟨(hd j hj).2 p (by simp), (hd j hj).1⟩) _ hle.2 hit
    obtain ⟨st', hs', R⟩ := lay_A last hps o (done ++ [p]) _ _ _ _ I' (fun x hx => hr x (by simp [hx])) p2 (fun j hj => by
      rcases List.mem_append.mp hj with hj | hj
      · exact ⟨(hd j hj).1, fun x hx => (hd j hj).2 x (by simp [hx])⟩
      · rw [List.mem_singleton.mp hj]
        exact ⟨r0, p1⟩)
    rw [List.append_assoc, List.singleton_append] at R
    exact ⟨st', hs', R⟩
def InvN (wd : Int) (ps : List (List Int)) (done : List Int) (st : List (Int × Int)) (ht_ : Int) : Prop :=
  (st = [] ∧ ht_ = 0 ∧ done = []) ∨ (0 < st.length ∧ 0 ≤ (rdP st ((st.length - 1 : Nat) : Int)).2 ∧ ∃ AL H1 : Int, (∃ j ∈ done, H1 = ht ps j) ∧ wd * (ht_ - H1) + AL ≤ 2 * areaL ps done ∧ ∀ h : Int, 0 ≤ h → (∀ j ∈ done, h ≤ ht ps j) → h * (rdP st ((st.length - 1 : Nat) : Int)).2 ≤ AL)
theorem invN_step {wd : Int} {ps : List (List Int)} {done : List Int} {st : List (Int × Int)} {ht_ : Int} (I : InvN wd ps done st ht_) (p : Int) (hp : inR ps p) (hdone : ∀ j ∈ done, ht ps p ≤ ht ps j) (k : Nat) (hk : k < st.length → k = st.length - 1) (hk2 : k ≤ st.length) (hn : ¬ k < st.length → 0 < st.length → ¬ fitsAt st wd (wdt ps p) (st.length - 1)) :
    InvN wd ps (done ++ [p]) (stS st ht_ (wdt ps p) k) (stH st ht_ (ht ps p) k) := by
  obtain ⟨_, hh, hw1⟩ := hp
  have area0 : 0 ≤ wdt ps p * ht ps p := Int.mul_nonneg (by omega) (by omega)
  rcases I with ⟨rfl, rfl, rfl⟩ | ⟨h0, hu, AL, H1, ⟨j, hj, e⟩, h1, h2⟩
  · have c : ¬ k < ([] : List (Int × Int)).length := by simp
    have es : stS [] 0 (wdt ps p) k = [(0, 0 + wdt ps p)] := if_neg c
    have et : stH [] 0 (ht ps p) k = 0 + ht ps p := if_neg c
    rw [es, et]
    have er : rdP [((0 : Int), 0 + wdt ps p)] (([((0 : Int), 0 + wdt ps p)].length - 1 : Nat) : Int) = (0, 0 + wdt ps p) := rfl
    refine .inr ⟨by simp, by rw [er]; simp only; omega, wdt ps p * ht ps p, ht ps p, ⟨p, by simp, rfl⟩, ?_, fun h h0 hle => ?_⟩
    · rw [show (0 : Int) + ht ps p - ht ps p = 0 by omega, Int.mul_zero, List.nil_append]
      simp [areaL]
      omega
    · rw [er]
      simp only
      rw [show (0 : Int) + wdt ps p = wdt ps p by omega, Int.mul_comm h]
      exact Int.mul_le_mul_of_nonneg_left (hle p (by simp)) (by omega)
  · by_cases c : k < st.length
    · have ek := hk c
      have et : stH st ht_ (ht ps p) k = ht_ := if_pos c
      have el : (stS st ht_ (wdt ps p) k).length = st.length := by rw [stS_length, if_pos c]
      have er := (stS_old st ht_ (wdt ps p) k (st.length - 1) (by omega)).2
      rw [if_pos ek.symm] at er
      rw [et]
      refine .inr ⟨by rw [el]; exact h0, by rw [el, er]; omega, AL + wdt ps p * ht ps p, H1, ⟨j, List.mem_append.mpr (.inl hj), e⟩, by rw [areaL_snoc]; omega, fun h g0 hle => ?_⟩
      rw [el, er, Int.mul_add]
      have b1 := h2 h g0 (fun i hi => hle i (List.mem_append.mpr (.inl hi)))
      have b2 : h * wdt ps p ≤ wdt ps p * ht ps p := by
        rw [Int.mul_comm h]
        exact Int.mul_le_mul_of_nonneg_left (hle p (by simp)) (by omega)
      omega
    · have hnf := hn c h0
      unfold fitsAt at hnf
      have et : stH st ht_ (ht ps p) k = ht_ + ht ps p := if_neg c
      have el : (stS st ht_ (wdt ps p) k).length = st.length + 1 := by rw [stS_length, if_neg c]
      have es : stS st ht_ (wdt ps p) k = st ++ [(ht_, 0 + wdt ps p)] := if_neg c
      have er : rdP (stS st ht_ (wdt ps p) k) (((stS st ht_ (wdt ps p) k).length - 1 : Nat) : Int) = (ht_, 0 + wdt ps p) := by
        rw [el, es, Nat.add_sub_cancel]
        exact rdP_new st _
      rw [et]
      have b1 := h2 (ht ps p) (by omega) hdone
      have b2 : ht ps p * wd ≤ ht ps p * ((rdP st ((st.length - 1 : Nat) : Int)).2 + wdt ps p) := Int.mul_le_mul_of_nonneg_left (by omega) (by omega)
      rw [Int.mul_add, Int.mul_comm (ht ps p) (wdt ps p), Int.mul_comm (ht ps p) wd] at b2
      refine .inr ⟨by rw [el]; omega, by rw [er]; simp only; omega, wdt ps p * ht ps p, H1, ⟨j, List.mem_append.mpr (.inl hj), e⟩, ?_, fun h g0 hle => ?_⟩
      · rw [areaL_snoc, show ht_ + ht ps p - H1 = (ht_ - H1) + ht ps p by omega, Int.mul_add]
        omega
      · rw [er]
        simp only
        rw [show (0 : Int) + wdt ps p = wdt ps p by omega, Int.mul_comm h]
        exact Int.mul_le_mul_of_nonneg_left (hle p (by simp)) (by omega)
theorem lay_N {wd : Int} {ps : List (List Int)} (hps : ∀ p : Int, 0 ≤ p → p < (ps.length : Int) → 1 ≤ ht ps p ∧ (1 ≤ wdt ps p ∧ wdt ps p ≤ wd)) : ∀ (o done : List Int) (out : List S44) (st : List (Int × Int)) (ht_ : Int), InvN wd ps done st ht_ → (∀ p ∈ o, 0 ≤ p ∧ p < (ps.length : Int)) → o.Pairwise (RO ps) → (∀ j ∈ done, ∀ p ∈ o, RO ps j p) →
    ∃ st', InvN wd ps (done ++ o) st' (layF true wd ps o out st ht_).2
  | [], done, out, st, ht_, I, _, _, _ => ⟨st, by rw [List.append_nil]; exact I⟩
  | p :: o, done, out, st, ht_, I, hr, hp, hd => by
    obtain ⟨r0, r1⟩ := hr p (by simp)
    obtain ⟨q1, q2, q3⟩ := hps p r0 r1
    obtain ⟨p1, p2⟩ := List.pairwise_cons.mp hp
    have hle := posS_le st wd (wdt ps p) (startAt true st.length) st.length 0
    have hge := posS_ge st wd (wdt ps p) (startAt true st.length) st.length 0
    have hno := posS_none st wd (wdt ps p) (startAt true st.length) st.length 0
    rw [Nat.zero_add] at hle hge hno
    have hs : startAt true st.length = st.length - 1 := rfl
    have I' := invN_step I p ⟨⟨r0, r1⟩, q1, q2⟩ (fun j hj => (hd j hj p (by simp)).1) _ (fun c => by have := hge c; rw [hs] at this c ⊢; omega) hle.2 (fun c h0 => by
      refine hno (by omega) (st.length - 1) (by omega) (by omega) (by rw [hs]; exact Nat.le_refl _))
    obtain ⟨st', R⟩ := lay_N hps o (done ++ [p]) _ _ _ I' (fun x hx => hr x (by simp [hx])) p2 (fun j hj => by
      rcases List.mem_append.mp hj with hj | hj
      · exact fun x hx => hd j hj x (by simp [hx])
      · rw [List.mem_singleton.mp hj]
        exact p1)
    rw [List.append_assoc, List.singleton_append] at R
    exact ⟨st', R⟩
/-- First shelves beside next ones: never more shelves, never higher ones. -/
structure Cmp (ps : List (List Int)) (done : List Int) (stF : List (Int × Int)) (htF : Int) (stN : List (Int × Int)) (htN : Int) (gN : List Int) : Prop where
  len : gN.length = stN.length
  le : stF.length ≤ stN.length
  last : stF.length = stN.length → 0 < stN.length → (rdP stF ((stN.length - 1 : Nat) : Int)).2 ≤ (rdP stN ((stN.length - 1 : Nat) : Int)).2
  pos : 0 < stN.length → 0 ≤ (rdP stN ((stN.length - 1 : Nat) : Int)).2
  hts : htF + (gN.drop stF.length).sum ≤ htN
  gd : ∀ g ∈ gN, 0 ≤ g ∧ ∃ j ∈ done, g = ht ps j
theorem cmp_step {wd : Int} {ps : List (List Int)} {done : List Int} {stF stN : List (Int × Int)} {htF htN : Int} {gN : List Int} (C : Cmp ps done stF htF stN htN gN) (p : Int) (hp : inR ps p) (hdone : ∀ j ∈ done, ht ps p ≤ ht ps j) (kN kF : Nat) (hkN : kN < stN.length → kN = stN.length - 1 ∧ fitsAt stN wd (wdt ps p) kN) (hkF : kF ≤ stF.length) (hnF : ¬ kF < stF.length → ∀ s, s < stF.length → ¬ fitsAt stF wd (wdt ps p) s) (hkN2 : kN ≤ stN.length) :
    Cmp ps (done ++ [p]) (stS stF htF (wdt ps p) kF) (stH stF htF (ht ps p) kF) (stS stN htN (wdt ps p) kN) (stH stN htN (ht ps p) kN) (sH gN kN stN.length (ht ps p)) := by
  obtain ⟨_, hh, hw1⟩ := hp
  have gd' : ∀ g ∈ sH gN kN stN.length (ht ps p), 0 ≤ g ∧ ∃ j ∈ done ++ [p], g = ht ps j := fun g hg => by
    have old : ∀ g ∈ gN, 0 ≤ g ∧ ∃ j ∈ done ++ [p], g = ht ps j := fun g hg => by
      obtain ⟨a, j, hj, e⟩ := C.gd g hg
      exact ⟨a, j, List.mem_append.mpr (.inl hj), e⟩
    unfold sH at hg
    split at hg
    · exact old g hg
    · rcases List.mem_append.mp hg with hg | hg
      · exact old g hg
      · rw [List.mem_singleton.mp hg]
        exact ⟨by omega, p, by simp, rfl⟩
  have big : ∀ m : Nat, m < gN.length → (gN.drop m).sum ≥ ht ps p + (gN.drop (m + 1)).sum := fun m hm => by
    obtain ⟨_, j, hj, e⟩ := C.gd _ (List.getElem_mem hm)
    have := hdone j hj
    rw [List.drop_eq_getElem_cons hm, List.sum_cons, e]
    omega
  have Cl := C.len
  have Cle := C.le
  have Ch := C.hts
  have elF := stS_length stF htF (wdt ps p) kF
  have elN := stS_length stN htN (wdt ps p) kN
  by_cases cN : kN < stN.length
  · obtain ⟨ekN, hfN⟩ := hkN cN
    rw [if_pos cN] at elN
    have etN : stH stN htN (ht ps p) kN = htN := if_pos cN
    have egN : sH gN kN stN.length (ht ps p) = gN := if_pos cN
    have euN := (stS_old stN htN (wdt ps p) kN (stN.length - 1) (by omega)).2
    rw [if_pos ekN.symm] at euN
    have posN := C.pos (by omega)
    rw [egN] at gd' ⊢
    rw [etN]
    have fN := hfN
    unfold fitsAt at fN
    rw [ekN] at fN
    by_cases cF : kF < stF.length
    · rw [if_pos cF] at elF
      have etF : stH stF htF (ht ps p) kF = htF := if_pos cF
      rw [etF]
      refine ⟨by rw [elN]; exact Cl, by rw [elF, elN]; exact Cle, fun e h0 => ?_, fun _ => by rw [elN, euN]; omega, by rw [elF]; exact Ch, gd'⟩
      rw [elF, elN] at e
      have := C.last e (by omega)
      rw [elN, euN, (stS_old stF htF (wdt ps p) kF (stN.length - 1) (by omega)).2]
      split <;> omega
    · rw [if_neg cF] at elF
      have etF : stH stF htF (ht ps p) kF = htF + ht ps p := if_neg cF
      have esF : stS stF htF (wdt ps p) kF = stF ++ [(htF, 0 + wdt ps p)] := if_neg cF
      have hlt : stF.length < stN.length := by
        refine Nat.lt_of_le_of_ne Cle fun e => ?_
        have h1 := C.last e (by omega)
        have h2 := hnF cF (stN.length - 1) (by omega)
        unfold fitsAt at h2
        omega
      have hb := big stF.length (by omega)
      rw [etF]
      refine ⟨by rw [elN]; exact Cl, by rw [elF, elN]; exact hlt, fun e h0 => ?_, fun _ => by rw [elN, euN]; omega, by rw [elF]; omega, gd'⟩
      rw [elF, elN] at e
      have e1 : stN.length - 1 = stF.length := by omega
      rw [elN, euN, esF, e1, rdP_new]
      rw [e1] at posN
      simp only
      omega
  · rw [if_neg cN] at elN
    have etN : stH stN htN (ht ps p) kN = htN + ht ps p := if_neg cN
    have egN : sH gN kN stN.length (ht ps p) = gN ++ [ht ps p] := if_neg cN
    have esN : stS stN htN (wdt ps p) kN = stN ++ [(htN, 0 + wdt ps p)] := if_neg cN
    have euN : rdP (stS stN htN (wdt ps p) kN) (((stS stN htN (wdt ps p) kN).length - 1 : Nat) : Int) = (htN, 0 + wdt ps p) := by
      rw [elN, esN, Nat.add_sub_cancel]
      exact rdP_new stN _
    rw [egN] at gd' ⊢
    rw [etN]
    by_cases cF : kF < stF.length
    · rw [if_pos cF] at elF
      have etF : stH stF htF (ht ps p) kF = htF := if_pos cF
      rw [etF]
      refine ⟨by rw [elN, List.length_append, Cl]; rfl, by rw [elF, elN]; omega, fun e h0 => ?_, fun _ => by rw [euN]; simp only; omega, ?_, gd'⟩
      · rw [elF, elN] at e; omega
      · rw [elF, List.drop_append_of_le_length (by omega), List.sum_append]
        simp only [List.sum_cons, List.sum_nil]
        omega
    · rw [if_neg cF] at elF
      have etF : stH stF htF (ht ps p) kF = htF + ht ps p := if_neg cF
      have esF : stS stF htF (wdt ps p) kF = stF ++ [(htF, 0 + wdt ps p)] := if_neg cF
      rw [etF]
      refine ⟨by rw [elN, List.length_append, Cl]; rfl, by rw [elF, elN]; omega, fun e h0 => ?_, fun _ => by rw [euN]; simp only; omega, ?_, gd'⟩
      · rw [euN]
        rw [elF, elN] at e
        have e1 : (stS stN htN (wdt ps p) kN).length - 1 = stF.length := by omega
        rw [e1, esF, rdP_new]
        exact Int.le_refl _
      · rw [elF]
        by_cases e : stF.length = stN.length
        · have h1 : (gN.drop stF.length).sum = 0 := by rw [List.drop_of_length_le (by omega)]; rfl
          rw [List.drop_of_length_le (by rw [List.length_append, Cl]; simp; omega)]
          simp only [List.sum_nil]
          omega
        · have hb := big stF.length (by omega)
          rw [List.drop_append_of_le_length (by omega), List.sum_append]
          simp only [List.sum_cons, List.sum_nil]
          omega
theorem lay_cmp {wd : Int} {ps : List (List Int)} (hps : ∀ p : Int, 0 ≤ p → p < (ps.length : Int) → 1 ≤ ht ps p ∧ (1 ≤ wdt ps p ∧ wdt ps p ≤ wd)) : ∀ (o done : List Int) (outF outN : List S44) (stF : List (Int × Int)) (htF : Int) (stN : List (Int × Int)) (htN : Int) (gN : List Int), Cmp ps done stF htF stN htN gN → (∀ p ∈ o, 0 ≤ p ∧ p < (ps.length : Int)) → o.Pairwise (RO ps) → (∀ j ∈ done, ∀ p ∈ o, RO ps j p) →
    (layF false wd ps o outF stF htF).2 ≤ (layF true wd ps o outN stN htN).2
  | [], done, _, _, stF, htF, stN, htN, gN, C, _, _, _ => by
    have h0 : ∀ l : List Int, (∀ g ∈ l, 0 ≤ g) → 0 ≤ l.sum := fun l => by
      induction l with
      | nil => intro _; exact Int.le_refl _
      | cons a r ih =>
        intro h
        have h1 := h a (by simp)
        have h2 := ih fun g hg => h g (by simp [hg])
        rw [List.sum_cons]
        omega
    have := h0 (gN.drop stF.length) (fun g hg => (C.gd g (List.mem_of_mem_drop hg)).1)
    have := C.hts
    show htF ≤ htN
    omega
  | p :: o, done, outF, outN, stF, htF, stN, htN, gN, C, hr, hp, hd => by
    obtain ⟨r0, r1⟩ := hr p (by simp)
    obtain ⟨q1, q2, q3⟩ := hps p r0 r1
    obtain ⟨p1, p2⟩ := List.pairwise_cons.mp hp
    have leN := posS_le stN wd (wdt ps p) (startAt true stN.length) stN.length 0
    have geN := posS_ge stN wd (wdt ps p) (startAt true stN.length) stN.length 0
    have hitN := posS_hit stN wd (wdt ps p) (startAt true stN.length) stN.length 0
    have leF := posS_le stF wd (wdt ps p) (startAt false stF.length) stF.length 0
    have noF := posS_none stF wd (wdt ps p) (startAt false stF.length) stF.length 0
    rw [Nat.zero_add] at leN geN hitN leF noF
    have hs : startAt true stN.length = stN.length - 1 := rfl
    have hs2 : startAt false stF.length = 0 := rfl
    have C' := cmp_step (wd := wd) C p ⟨⟨r0, r1⟩, q1, q2⟩ (fun j hj => (hd j hj p (by simp)).1) _ _ (fun c => ⟨by have := geN c; rw [hs] at this c ⊢; omega, hitN c⟩) leF.2 (fun c s hs' => noF (by omega) s (by omega) (by omega) (by rw [hs2]; omega)) leN.2
    exact lay_cmp hps o (done ++ [p]) _ _ _ _ _ _ _ C' (fun x hx => hr x (by simp [hx])) p2 (fun j hj => by
      rcases List.mem_append.mp hj with hj | hj
      · exact fun x hx => hd j hj x (by simp [hx])
      · rw [List.mem_singleton.mp hj]
        exact p1)
def RS (ps : List (List Int)) (i j : Int) : Prop := ht ps j ≤ ht ps i ∧ (ht ps i = ht ps j → i < j)
theorem RS_RO {ps : List (List Int)} {i j : Int} (h : RS ps i j) : RO ps i j := ⟨h.1, fun e => by subst e; have := h.2 rfl; omega⟩
theorem posGo_above (l : List (List Int)) (S : List Int) (x : Int) : ∀ k j, posGo l S x k ≤ j → j < k → ht l (rd S (j : Int)) < ht l x
  | 0, j, _, h => by omega
  | k + 1, j, h1, h2 => by
    unfold posGo at h1
    by_cases c : ht l (rd S (k : Int)) < ht l x
    · rw [if_pos c] at h1
      by_cases e : j = k
      · subst e; exact c
      · exact posGo_above l S x k j h1 (by omega)
    · rw [if_neg c] at h1; omega
theorem posGo_below (l : List (List Int)) (S : List Int) (x : Int) : ∀ k, 0 < posGo l S x k → ht l x ≤ ht l (rd S ((posGo l S x k - 1 : Nat) : Int))
  | 0, h => by simp [posGo] at h
  | k + 1, h => by
    unfold posGo at h ⊢
    by_cases c : ht l (rd S (k : Int)) < ht l x
    · rw [if_pos c] at h ⊢
      exact posGo_below l S x k h
    · rw [if_neg c]
      rw [Nat.add_sub_cancel]
      omega
theorem ins_sorted (l : List (List Int)) (S : List Int) (x : Int) (hS : S.Pairwise (RS l)) (hx : ∀ a ∈ S, a < x) : (insAt S x (posGo l S x S.length)).Pairwise (RS l) := by
  have hle := posGo_le l S x S.length
  have hab := posGo_above l S x S.length
  have hbe := posGo_below l S x S.length
  generalize posGo l S x S.length = p at hle hab hbe
  have hst : ∀ a ∈ S.take p, RS l a x := fun a ha => by
    obtain ⟨i, hi, rfl⟩ := List.mem_iff_getElem.mp ha
    rw [List.length_take] at hi
    rw [List.getElem_take]
    have hp0 : 0 < p := by omega
    have h1 := hbe hp0
    have hi1 : p - 1 < S.length := by omega
    rw [rd_get S (p - 1) hi1] at h1
    have hlt : S[i]'(by omega) < x := hx _ (List.getElem_mem _)
    refine ⟨?_, fun _ => hlt⟩
    by_cases e : i = p - 1
    · subst e; exact h1
    · have := ((List.pairwise_iff_getElem.mp hS) i (p - 1) (by omega) hi1 (by omega)).1
      omega
  have hsd : ∀ b ∈ S.drop p, RS l x b := fun b hb => by
    obtain ⟨i, hi, rfl⟩ := List.mem_iff_getElem.mp hb
    rw [List.length_drop] at hi
    rw [List.getElem_drop]
    have := hab (p + i) (by omega) (by omega)
    rw [rd_get S (p + i) (by omega)] at this
    exact ⟨by omega, fun e => by omega⟩
  have hS' := hS
  rw [← List.take_append_drop p S, List.pairwise_append] at hS'
  unfold insAt
  rw [List.pairwise_append]
  refine ⟨hS'.1, List.pairwise_cons.mpr ⟨hsd, hS'.2.1⟩, fun a ha b hb => ?_⟩
  rcases List.mem_cons.mp hb with rfl | hb
  · exact hst a ha
  · exact hS'.2.2 a ha b hb
theorem insAt_mem' (S : List Int) (x : Int) (p : Nat) (y : Int) : y ∈ insAt S x p ↔ y = x ∨ y ∈ S := by
  unfold insAt
  rw [List.mem_append, List.mem_cons]
  constructor
  · rintro (h | h | h)
    · exact .inr (List.mem_of_mem_take h)
    · exact .inl h
    · exact .inr (List.mem_of_mem_drop h)
  · rintro (h | h)
    · exact .inr (.inl h)
    · rw [← List.take_append_drop p S, List.mem_append] at h
      rcases h with h | h
      · exact .inl h
      · exact .inr (.inr h)
theorem orderGo_facts (l : List (List Int)) : ∀ (d i : Nat) (S : List Int), S.Pairwise (RS l) → (∀ a, a ∈ S ↔ 0 ≤ a ∧ a < (i : Int)) → (orderGo l d i S).Pairwise (RS l) ∧ ∀ a, a ∈ orderGo l d i S ↔ 0 ≤ a ∧ a < ((i + d : Nat) : Int)
  | 0, i, S, h1, h2 => ⟨h1, h2⟩
  | d + 1, i, S, h1, h2 => by
    rw [orderGo]
    have := orderGo_facts l d (i + 1) (insAt S (i : Int) (posGo l S (i : Int) S.length)) (ins_sorted l S _ h1 (fun a ha => ((h2 a).mp ha).2)) (fun a => by
      rw [insAt_mem', h2]
      omega)
    rw [show i + (d + 1) = i + 1 + d by omega]
    exact this
theorem order_facts (l : List (List Int)) : (orderGo l l.length 0 []).Pairwise (RS l) ∧ ∀ a, a ∈ orderGo l l.length 0 [] ↔ 0 ≤ a ∧ a < (l.length : Int) := by
  have := orderGo_facts l l.length 0 [] List.Pairwise.nil (fun a => by simp <;> omega)
  rw [Nat.zero_add] at this
  exact this
theorem sum_same (f : Int → Int) : ∀ (a b : List Int), a.Pairwise (· ≠ ·) → b.Pairwise (· ≠ ·) → (∀ z, z ∈ a ↔ z ∈ b) → (a.map f).sum = (b.map f).sum
  | [], b, _, _, h => by
    have : b = [] := List.eq_nil_iff_forall_not_mem.mpr fun z hz => by simpa using (h z).mpr hz
    rw [this]
  | x :: r, b, ha, hb, h => by
    have hx : x ∈ b := (h x).mp (by simp)
    obtain ⟨s, t, rfl⟩ := List.append_of_mem hx
    rw [List.pairwise_cons] at ha
    rw [List.pairwise_append, List.pairwise_cons] at hb
    have e := sum_same f r (s ++ t) ha.2 (by
      rw [List.pairwise_append]
      exact ⟨hb.1, hb.2.1.2, fun u hu v hv => hb.2.2 u hu v (by simp [hv])⟩) (fun z => by
      have hz := h z
      rw [List.mem_append, List.mem_cons, List.mem_cons] at hz
      rw [List.mem_append]
      constructor
      · intro hr
        rcases hz.mp (.inr hr) with h1 | rfl | h1
        · exact .inl h1
        · exact absurd rfl (ha.1 z hr)
        · exact .inr h1
      · rintro (h1 | h1)
        · rcases hz.mpr (.inl h1) with rfl | h2
          · exact absurd rfl (hb.2.2 z h1 z (by simp))
          · exact h2
        · rcases hz.mpr (.inr (.inr h1)) with rfl | h2
          · exact absurd rfl (hb.2.1.1 z h1)
          · exact h2)
    rw [List.map_cons, List.sum_cons, e]
    simp only [List.map_append, List.map_cons, List.sum_append, List.sum_cons]
    omega
theorem lay_up (last : Bool) {wd : Int} {ps : List (List Int)} (hps : ∀ p : Int, 0 ≤ p → p < (ps.length : Int) → 1 ≤ ht ps p ∧ ht ps p ≤ 100) : ∀ (o : List Int) (out : List S44) (st : List (Int × Int)) (ht_ : Int), (∀ p ∈ o, 0 ≤ p ∧ p < (ps.length : Int)) → (layF last wd ps o out st ht_).2 ≤ ht_ + 100 * (o.length : Int)
  | [], _, _, ht_, _ => by show ht_ ≤ _; simp
  | p :: o, out, st, ht_, hr => by
    obtain ⟨r0, r1⟩ := hr p (by simp)
    have hh := hps p r0 r1
    have h1 := lay_up last (wd := wd) hps o (stO out st ht_ p (posS st wd (rd (rd_L3 ps p) 0) (startAt last st.length) st.length 0)) (stS st ht_ (rd (rd_L3 ps p) 0) (posS st wd (rd (rd_L3 ps p) 0) (startAt last st.length) st.length 0)) (stH st ht_ (rd (rd_L3 ps p) 1) (posS st wd (rd (rd_L3 ps p) 0) (startAt last st.length) st.length 0)) (fun x hx => hr x (by simp [hx]))
    have h2 : stH st ht_ (rd (rd_L3 ps p) 1) (posS st wd (rd (rd_L3 ps p) 0) (startAt last st.length) st.length 0) ≤ ht_ + 100 := by
      unfold stH
      have : rd (rd_L3 ps p) 1 = ht ps p := rfl
      split <;> omega
    show (layF last wd ps o _ _ _).2 ≤ _
    rw [List.length_cons]
    omega
theorem iota_mem (n : Nat) (a : Int) : a ∈ iota n ↔ 0 ≤ a ∧ a < (n : Int) := by
  unfold iota
  rw [List.mem_map]
  constructor
  · rintro ⟨j, hj, rfl⟩
    have := List.mem_range.mp hj
    omega
  · rintro ⟨h0, h1⟩
    obtain ⟨j, rfl⟩ := Int.eq_ofNat_of_zero_le h0
    exact ⟨j, List.mem_range.mpr (by omega), rfl⟩
theorem iota_nd (n : Nat) : (iota n).Pairwise (· ≠ ·) := by
  unfold iota
  refine List.pairwise_map.mpr (List.pairwise_lt_range.imp fun h => ?_)
  omega
def areaP (ps : List (List Int)) : Int := (ps.map fun p => rd p 0 * rd p 1).sum
theorem area_order (ps : List (List Int)) : areaL ps (orderGo ps ps.length 0 []) = areaP ps := by
  obtain ⟨h1, h2⟩ := order_facts ps
  unfold areaL areaP
  rw [sum_same _ _ (iota ps.length) (h1.imp fun h => (RS_RO h).2) (iota_nd _) (fun z => by rw [h2, iota_mem])]
  congr 1
  refine List.ext_getElem (by simp [iota]) fun i h3 h4 => ?_
  rw [List.length_map] at h4
  simp [iota, wdt, ht, rd_L3, List.getD_eq_getElem?_getD, h4]
structure Laid (wd : Int) (ps : List (List Int)) (r : List S44 × Int) : Prop where
  len : r.1.length = ps.length
  at_ : ∀ i : Int, 0 ≤ i → i < (ps.length : Int) → (0 ≤ (rd_T44 r.1 i).f0 ∧ 0 ≤ (rd_T44 r.1 i).f1) ∧ (rd_T44 r.1 i).f0 + wdt ps i ≤ wd ∧ (rd_T44 r.1 i).f1 + ht ps i ≤ r.2
  dj : ∀ i j : Int, 0 ≤ i → i < (ps.length : Int) → 0 ≤ j → j < (ps.length : Int) → i ≠ j → Dj ps r.1 i j
  area : areaP ps ≤ wd * r.2
  up : 0 ≤ r.2 ∧ r.2 ≤ 100 * (ps.length : Int)
theorem order_len (ps : List (List Int)) : (orderGo ps ps.length 0 []).length = ps.length := by rw [orderGo_len]; simp
theorem laid (last : Bool) {wd : Int} {ps : List (List Int)} (hwd : 1 ≤ wd) (hps : ∀ p : Int, 0 ≤ p → p < (ps.length : Int) → (1 ≤ ht ps p ∧ ht ps p ≤ 100) ∧ (1 ≤ wdt ps p ∧ wdt ps p ≤ wd)) : Laid wd ps (layF last wd ps (orderGo ps ps.length 0 []) (List.replicate ps.length ⟨0, 0⟩) [] 0) := by
  obtain ⟨h1, h2⟩ := order_facts ps
  have hr : ∀ p ∈ orderGo ps ps.length 0 [], 0 ≤ p ∧ p < (ps.length : Int) := fun p hp => (h2 p).mp hp
  obtain ⟨st', hs', I⟩ := lay_A last (fun p a b => ⟨(hps p a b).1.1, (hps p a b).2⟩) (orderGo ps ps.length 0 []) [] (List.replicate ps.length ⟨0, 0⟩) [] 0 [] ⟨⟨rfl, by simp, by simp, by simp, Int.le_refl _⟩, by simp, by simp, by simp, by simp [areaL, slack], by simp⟩ hr (h1.imp RS_RO) (by simp)
  have hup := lay_up last (fun p a b => (hps p a b).1) (wd := wd) (orderGo ps ps.length 0 []) (List.replicate ps.length ⟨0, 0⟩) [] 0 hr
  rw [order_len] at hup
  rw [List.nil_append] at I
  generalize layF last wd ps (orderGo ps ps.length 0 []) (List.replicate ps.length ⟨0, 0⟩) [] 0 = r at I hup ⊢
  have hsl := slack_nonneg wd st' hs' I.S.len (fun s hs => ⟨(I.S.used s hs).2, by have := (I.S.bot s hs).2.1; omega⟩)
  have har := I.ar
  rw [area_order] at har
  refine ⟨I.n, fun i a b => ?_, fun i j a b c d hne => I.dj i ((h2 i).mpr ⟨a, b⟩) j ((h2 j).mpr ⟨c, d⟩) hne, by omega, I.S.ht0, by omega⟩
  obtain ⟨s, s0, s1, s2, s3, s4⟩ := I.pl i ((h2 i).mpr ⟨a, b⟩)
  have h3 := I.S.used s s0
  have h4 := I.S.bot s s0
  omega
theorem next_high {wd : Int} {ps : List (List Int)} (hwd : 1 ≤ wd) (hps : ∀ p : Int, 0 ≤ p → p < (ps.length : Int) → (1 ≤ ht ps p ∧ ht ps p ≤ 100) ∧ (1 ≤ wdt ps p ∧ wdt ps p ≤ wd)) (high : Int) (h0 : 0 ≤ high) (hh : ∀ i : Int, 0 ≤ i → i < (ps.length : Int) → ht ps i ≤ high) : (layF true wd ps (orderGo ps ps.length 0 []) (List.replicate ps.length ⟨0, 0⟩) [] 0).2 * wd ≤ high * wd + 2 * areaP ps := by
  obtain ⟨h1, h2⟩ := order_facts ps
  have hr : ∀ p ∈ orderGo ps ps.length 0 [], 0 ≤ p ∧ p < (ps.length : Int) := fun p hp => (h2 p).mp hp
  obtain ⟨st', I⟩ := lay_N (fun p a b => ⟨(hps p a b).1.1, (hps p a b).2⟩) (orderGo ps ps.length 0 []) [] (List.replicate ps.length ⟨0, 0⟩) [] 0 (.inl ⟨rfl, rfl, rfl⟩) hr (h1.imp RS_RO) (by simp)
  rw [List.nil_append] at I
  rw [← area_order ps]
  generalize (layF true wd ps (orderGo ps ps.length 0 []) (List.replicate ps.length ⟨0, 0⟩) [] 0).2 = x at I
  rcases I with ⟨_, e1, e2⟩ | ⟨_, _, AL, H1, ⟨j, hj, e⟩, g1, g2⟩
  · rw [e1, e2, Int.zero_mul]
    have := Int.mul_nonneg h0 (show 0 ≤ wd by omega)
    simp only [areaL, List.map_nil, List.sum_nil]
    omega
  · have g3 := g2 0 (Int.le_refl _) (fun i hi => by
      have := hr i hi
      have := (hps i this.1 this.2).1.1
      omega)
    rw [Int.zero_mul] at g3
    have g4 := hr j hj
    have g5 := Int.mul_le_mul_of_nonneg_left (hh j g4.1 g4.2) (show 0 ≤ wd by omega)
    rw [← e] at g5
    rw [Int.mul_sub] at g1
    rw [Int.mul_comm x wd, Int.mul_comm high wd]
    omega
theorem first_next {wd : Int} {ps : List (List Int)} (hps : ∀ p : Int, 0 ≤ p → p < (ps.length : Int) → (1 ≤ ht ps p ∧ ht ps p ≤ 100) ∧ (1 ≤ wdt ps p ∧ wdt ps p ≤ wd)) : (layF false wd ps (orderGo ps ps.length 0 []) (List.replicate ps.length ⟨0, 0⟩) [] 0).2 ≤ (layF true wd ps (orderGo ps ps.length 0 []) (List.replicate ps.length ⟨0, 0⟩) [] 0).2 := by
  obtain ⟨h1, h2⟩ := order_facts ps
  have hr : ∀ p ∈ orderGo ps ps.length 0 [], 0 ≤ p ∧ p < (ps.length : Int) := fun p hp => (h2 p).mp hp
  exact lay_cmp (fun p a b => ⟨(hps p a b).1.1, (hps p a b).2⟩) (orderGo ps ps.length 0 []) [] _ _ [] 0 [] 0 [] ⟨rfl, Nat.le_refl _, by simp, by simp, by simp, by simp⟩ hr (h1.imp RS_RO) (by simp)

theorem wrap_i64 (n : Int) : IntKind.i64.wrap n = wrap64 n := by
  simp only [IntKind.wrap, IntKind.bits, IntKind.signed, wrap64, Bool.true_and, decide_eq_true_eq, ge_iff_le]
  split <;> omega
set_option linter.unusedSectionVars false
theorem and255 (v : Int) : 0 ≤ Go.bits .and .i64 v 255 ∧ Go.bits .and .i64 v 255 ≤ 255 := by
  have h : (BitVec.ofInt 64 v &&& BitVec.ofInt 64 255).toNat ≤ 255 := by
    rw [BitVec.toNat_and]
    exact Nat.le_trans Nat.and_le_right (by decide)
  have e : Go.bits .and .i64 v 255 = (((BitVec.ofInt 64 v &&& BitVec.ofInt 64 255).toNat : Nat) : Int) := by
    show IntKind.i64.wrap ((BitVec.ofInt 64 v &&& BitVec.ofInt 64 255).toNat : Int) = _
    rw [wrap_i64, w64 (by omega) (by omega)]
  rw [e]
  omega
section
variable {b : List Int} (hb : b.length ≤ 1048576)
include hb
theorem byte_f (p h : Int) (hp : 0 ≤ p ∧ p ≤ (b.length : Int)) : ∃ x p' h', spec_l01Byte.f b p h = some (x, p', h') ∧ (0 ≤ x ∧ x ≤ 255) ∧ 0 ≤ p' ∧ p' ≤ (b.length : Int) := by
  unfold spec_l01Byte.f
  by_cases c : p < (b.length : Int)
  · rw [if_pos c, if_pos hp.1]
    refine ⟨_, _, _, rfl, and255 _, ?_⟩
    rw [w64 (by omega) (by omega)]
    omega
  · rw [if_neg c]
    exact ⟨_, _, _, rfl, and255 _, hp⟩
theorem below_f (p h n : Int) (hp : 0 ≤ p ∧ p ≤ (b.length : Int)) (hn : 1 ≤ n ∧ n ≤ 256) : ∃ x p' h', spec_l01Below.f b p h n = some (x, p', h') ∧ (0 ≤ x ∧ x < n) ∧ 0 ≤ p' ∧ p' ≤ (b.length : Int) := by
  obtain ⟨x, p', h', e, hx, hp'⟩ := byte_f hb p h hp
  refine ⟨Int.tmod x n, p', h', ?_, ⟨Int.tmod_nonneg _ hx.1, Int.tmod_lt_of_pos _ (by omega)⟩, hp'⟩
  unfold spec_l01Below.f
  rw [if_neg (by omega), if_pos hn.2, e]
  simp only [Option.bind_some]
  rw [if_neg (by omega)]
theorem new_l (d : Nat) : ∀ (i : Nat) (h : Int), b.length - i = d → i ≤ b.length → ∃ h', Ev (fun k => spec_l01New.l0 k b h (i : Int)) (b, 0, h') := by
  induction d with
  | zero =>
    intro i h hd hi
    refine ⟨h, Ev.step (f := fun _ => some (b, 0, h)) (fun k => ?_) (Ev.now _)⟩
    simp only [spec_l01New.l0, lt_f (show b.length ≤ i by omega), if_false]
  | succ d ih =>
    intro i h hd hi
    have hlt : i < b.length := by omega
    by_cases c : (i : Int) < 4000
    · obtain ⟨h', H⟩ := ih (i + 1) (Go.bits .and .i64 (wrap64 ((wrap64 ((wrap64 (h * 179)) + (wrap64 (rd b (i : Int))))) + 7)) 1073741823) (by omega) (by omega)
      refine ⟨h', Ev.step (fun k => ?_) H⟩
      simp only [spec_l01New.l0, lt_t hlt, nn_t, if_true, c, w1 (show i ≤ 140737488355328 by omega)]
    · refine ⟨h, Ev.step (f := fun _ => some (b, 0, h)) (fun k => ?_) (Ev.now _)⟩
      simp only [spec_l01New.l0, lt_t hlt, if_true, c, if_false]
theorem l31_l (n : Nat) (hn : n ≤ 100) (d : Nat) : ∀ (i : Nat) (p h : Int), n - i = d → i ≤ n → (0 ≤ p ∧ p ≤ (b.length : Int)) → ∃ p' h', Ev (fun k => spec_l31New.l0 k (n : Int) b p h (i : Int)) (b, p', h') ∧ 0 ≤ p' ∧ p' ≤ (b.length : Int) := by
  induction d with
  | zero =>
    intro i p h hd hi hp
    refine ⟨p, h, Ev.step (f := fun _ => some (b, p, h)) (fun k => ?_) (Ev.now _), hp⟩
    simp only [spec_l31New.l0, lt_f (show n ≤ i by omega), if_false]
  | succ d ih =>
    intro i p h hd hi hp
    have hlt : i < n := by omega
    obtain ⟨x, p1, h1, e, _, hp1⟩ := byte_f hb p h hp
    obtain ⟨p', h', H, hp'⟩ := ih (i + 1) p1 h1 (by omega) (by omega) hp1
    refine ⟨p', h', Ev.step (fun k => ?_) H, hp'⟩
    simp only [spec_l31New.l0, lt_t hlt, if_true, e, Option.bind_some, w1 (show i ≤ 140737488355328 by omega)]
theorem l31_f (n : Nat) (hn : n ≤ 100) : ∃ p' h', Ev (fun k => spec_l31New.f k b (n : Int)) (b, p', h') ∧ 0 ≤ p' ∧ p' ≤ (b.length : Int) := by
  obtain ⟨h0, H0⟩ := new_l hb b.length 0 (wrap64 (2173 + (b.length : Int))) rfl (Nat.zero_le _)
  obtain ⟨p', h', H, hp'⟩ := l31_l hb n hn n 0 0 h0 rfl (Nat.zero_le _) ⟨by omega, by omega⟩
  refine ⟨p', h', ?_, hp'⟩
  unfold spec_l31New.f spec_l01New.f
  exact Ev.bind H0 H
end

/- TurnedPieces: both texts turn a piece that is higher than wide, if the strip is wide enough. -/
def turnOne (wd : Int) (p : List Int) : List Int := if rd p 1 > rd p 0 ∧ rd p 1 ≤ wd then [rd p 1, rd p 0] else p
theorem turn1_two {p : List Int} (h : p.length = 2) : turn1 p = [rd p 1, rd p 0] := by
  match p, h with
  | [a, b], _ => rfl
theorem impl_turn_l (l : List (List Int)) (wd : Int) (hl : l.length ≤ 12) (hx : ∀ p ∈ l, p.length = 2) (d : Nat) : ∀ (k i : Nat), l.length - i = d → i ≤ l.length → d < k → impl_TurnedPieces.l0 k wd ((l.take i).map (turnOne wd) ++ l.drop i) (i : Int) = some (l.map (turnOne wd)) := by
  induction d with
  | zero =>
    intro k i hd hi hk
    obtain ⟨k, rfl⟩ := succ_of hk
    rw [List.take_of_length_le (by omega), List.drop_of_length_le (by omega), List.append_nil]
    simp only [impl_TurnedPieces.l0, List.length_map, lt_f (show l.length ≤ i by omega), if_false]
  | succ d ih =>
    intro k i hd hi hk
    obtain ⟨k, rfl⟩ := succ_of hk
    have hlt : i < l.length := by omega
    have h2 := hx _ (List.getElem_mem hlt)
    have hih := ih k (i + 1) (by omega) (by omega) (by omega)
    have hyl : ((l.take i).map (turnOne wd)).length = i := by simp; omega
    rw [List.take_add_one, List.getElem?_eq_getElem hlt, List.map_append] at hih
    rw [List.drop_eq_getElem_cons hlt]
    generalize (l.take i).map (turnOne wd) = Y at hyl hih
    have hl2 : (Y ++ l[i] :: l.drop (i + 1)).length = l.length := by simp [hyl]; omega
    have hrd : rd_L3 (Y ++ l[i] :: l.drop (i + 1)) (i : Int) = l[i] := by
      rw [rdL_get _ i (by omega), List.getElem_append_right (by omega)]
      simp [hyl]
    have hset : ∀ z, (Y ++ l[i] :: l.drop (i + 1)).set i z = Y ++ z :: l.drop (i + 1) := by
      intro z
      rw [List.set_append_right _ _ (by omega), hyl, Nat.sub_self]
      rfl
    have hih2 : impl_TurnedPieces.l0 k wd (Y ++ turnOne wd l[i] :: l.drop (i + 1)) ((i + 1 : Nat) : Int) = some (l.map (turnOne wd)) := by
      rw [← hih]
      simp
    simp only [impl_TurnedPieces.l0, hl2, lt_t hlt, if_true, hrd, w1 (show i ≤ 140737488355328 by omega), Int.toNat_natCast, hset, turn1_two h2]
    rw [if_pos ⟨by omega, h2⟩]
    unfold turnOne at hih2
    by_cases h3 : rd l[i] 1 > rd l[i] 0
    · rw [if_pos h3]
      by_cases h4 : rd l[i] 1 ≤ wd
      · rw [if_pos ⟨h3, h4⟩] at hih2
        rw [if_pos h4]
        exact hih2
      · rw [if_neg (fun h => h4 h.2)] at hih2
        rw [if_neg h4]
        exact hih2
    · rw [if_neg (fun h => h3 h.1)] at hih2
      rw [if_neg h3]
      exact hih2

structure SD (wd : Int) (l : List (List Int)) : Prop where
  wd_ok : 4 ≤ wd ∧ wd ≤ 15
  len : l.length ≤ 8
  ok : ∀ p ∈ l, p.length = 2 ∧ (1 ≤ rd p 0 ∧ rd p 0 ≤ wd) ∧ (1 ≤ rd p 1 ∧ rd p 1 ≤ 9)
section
variable {b : List Int} (hb : b.length ≤ 1048576)
include hb
theorem draw15_l0 (wd : Int) (hwd : 4 ≤ wd ∧ wd ≤ 15) (d : Nat) : ∀ (l : List (List Int)) (p h : Int), l.length + d ≤ 8 → SD wd l → (0 ≤ p ∧ p ≤ (b.length : Int)) → ∃ l' p' h', Ev (fun k => spec_l15Draw.l0 k wd l (d : Int) b p h) (wd, l', p', h') ∧ SD wd l' := by
  induction d with
  | zero =>
    intro l p h hl D hp
    refine ⟨l, p, h, Ev.step (f := fun _ => some (wd, l, p, h)) (fun k => ?_) (Ev.now _), D⟩
    simp only [spec_l15Draw.l0]
    rw [if_neg (by omega)]
  | succ d ih =>
    intro l p h hl D hp
    obtain ⟨x, p1, h1, e1, hx1, hp1⟩ := below_f hb p h wd hp (by omega)
    obtain ⟨y, p2, h2, e2, hy2, hp2⟩ := below_f hb p1 h1 9 hp1 (by omega)
    obtain ⟨l', p', h', H, hl'⟩ := ih (l ++ [[1 + x, 1 + y]]) p2 h2 (by rw [List.length_append]; simp; omega) ⟨hwd, by rw [List.length_append]; simp; omega, fun q hq => by
      rcases List.mem_append.mp hq with hq | hq
      · exact D.ok q hq
      · rw [List.mem_singleton] at hq
        subst hq
        refine ⟨rfl, ?_, ?_⟩
        · show 1 ≤ 1 + x ∧ 1 + x ≤ wd; omega
        · show 1 ≤ 1 + y ∧ 1 + y ≤ 9; omega⟩ hp2
    refine ⟨l', p', h', Ev.step (fun k => ?_) H, hl'⟩
    have hll : l.length < 5864062014805 := by omega
    simp only [spec_l15Draw.l0]
    rw [if_pos (by omega), e1]
    simp only [Option.bind_some, e2]
    rw [if_pos hll, w64 (x := 1 + x) (by omega) (by omega), w64 (x := 1 + y) (by omega) (by omega), w64 (by omega) (by omega), show ((d + 1 : Nat) : Int) - 1 = (d : Int) by omega]
theorem make_strip : ∃ wd l, Ev (fun k => spec_MakeStrip.f k b 0) (wd, l) ∧ SD wd l := by
  obtain ⟨p, h, H, hp⟩ := l31_f hb 0 (by omega)
  obtain ⟨x, p1, h1, e1, hx1, hp1⟩ := below_f hb p h 12 hp (by omega)
  obtain ⟨n, p2, h2, e2, hn2, hp2⟩ := below_f hb p1 h1 9 hp1 (by omega)
  obtain ⟨m, rfl⟩ := Int.eq_ofNat_of_zero_le hn2.1
  obtain ⟨l, p3, h3, HL, hl⟩ := draw15_l0 hb (4 + x) (by omega) m [] p2 h2 (by simp; omega) ⟨by omega, by simp, by simp⟩ hp2
  refine ⟨4 + x, l, ?_, hl⟩
  unfold spec_MakeStrip.f
  refine Ev.bind H ?_
  have HD : Ev (fun k => spec_l15Draw.f k b p h) (4 + x, l, p3, h3) := by
    unfold spec_l15Draw.f
    rw [e1]
    simp only [Option.bind_some, e2]
    rw [w64 (by omega) (by omega)]
    exact HL
  exact Ev.bind HD (Ev.now _)
end
theorem at_w (l : List (List Int)) (i : Nat) (h : i < l.length) : wdt l (i : Int) = rd l[i] 0 ∧ ht l (i : Int) = rd l[i] 1 := by
  unfold wdt ht
  rw [rdL_get l i h]
  exact ⟨rfl, rfl⟩
theorem sd_each {wd : Int} {l : List (List Int)} (D : SD wd l) : ∀ p : Int, 0 ≤ p → p < (l.length : Int) → (1 ≤ ht l p ∧ ht l p ≤ 9) ∧ (1 ≤ wdt l p ∧ wdt l p ≤ wd) := fun p h0 h1 => by
  obtain ⟨i, rfl⟩ := Int.eq_ofNat_of_zero_le h0
  have hi : i < l.length := by omega
  obtain ⟨e1, e2⟩ := at_w l i hi
  have := D.ok _ (List.getElem_mem hi)
  rw [e1, e2]
  exact ⟨this.2.2, this.2.1⟩
theorem fits_true {wd : Int} {l : List (List Int)} (h1 : 1 ≤ wd ∧ wd ≤ 100) (h2 : l.length ≤ 12) (h3 : ∀ p ∈ l, p.length = 2 ∧ (1 ≤ rd p 0 ∧ rd p 0 ≤ wd) ∧ (1 ≤ rd p 1 ∧ rd p 1 ≤ 100)) : impl_PiecesFit.f wd l = some true := by
  unfold impl_PiecesFit.f
  have a : l.all pieceOk = true := by
    rw [List.all_eq_true]
    intro p hp
    have := h3 p hp
    unfold pieceOk
    exact decide_eq_true ⟨this.1, by omega, this.2.2⟩
  have b : l.all (fitsIn wd) = true := by
    rw [List.all_eq_true]
    intro p hp
    have := h3 p hp
    unfold fitsIn
    exact decide_eq_true this.2.1.2
  rw [a, b, decide_eq_true h1, decide_eq_true h2]
  rfl
/-! areas and heights -/
theorem prod_b {wd : Int} {l : List (List Int)} (D : SD wd l) : ∀ p ∈ l, 0 ≤ rd p 0 * rd p 1 ∧ rd p 0 * rd p 1 ≤ 135 := fun p hp => by
  obtain ⟨_, h1, h2⟩ := D.ok p hp
  have hw := D.wd_ok
  exact ⟨Int.mul_nonneg (by omega) (by omega), Int.mul_le_mul (show rd p 0 ≤ 15 by omega) h2.2 (by omega) (by omega)⟩
theorem area_b {wd : Int} {l : List (List Int)} (D : SD wd l) : 0 ≤ areaP l ∧ areaP l ≤ 1080 := by
  have gen : ∀ l : List (List Int), (∀ p ∈ l, 0 ≤ rd p 0 * rd p 1 ∧ rd p 0 * rd p 1 ≤ 135) → 0 ≤ areaP l ∧ areaP l ≤ 135 * (l.length : Int) := by
    intro l
    unfold areaP
    induction l with
    | nil => intro _; simp
    | cons p l ih =>
      intro h
      have := ih fun q hq => h q (List.mem_cons_of_mem _ hq)
      have := h p List.mem_cons_self
      simp only [List.map_cons, List.sum_cons, List.length_cons]
      omega
  have := gen l (prod_b D)
  have := D.len
  omega
theorem area_l {wd : Int} {l : List (List Int)} (D : SD wd l) (d : Nat) : ∀ (k i : Nat) (s : Int), l.length - i = d → i ≤ l.length → d < k → 0 ≤ s → s ≤ 135 * (i : Int) → laws_area.l0 k s l (l.length : Int) (i : Int) = some (s + ((l.drop i).map fun p => rd p 0 * rd p 1).sum) ∧ impl_areaOf.l0 k s l (l.length : Int) (i : Int) = some (s + ((l.drop i).map fun p => rd p 0 * rd p 1).sum) := by
  have hl := D.len
  induction d with
  | zero =>
    intro k i s hd hi hk h0 h1
    obtain ⟨k, rfl⟩ := succ_of hk
    simp only [laws_area.l0, impl_areaOf.l0, lt_f (show l.length ≤ i by omega), if_false, List.drop_of_length_le (show l.length ≤ i by omega), List.map_nil, List.sum_nil, Int.add_zero, and_self]
  | succ d ih =>
    intro k i s hd hi hk h0 h1
    obtain ⟨k, rfl⟩ := succ_of hk
    have hlt : i < l.length := by omega
    have hp := prod_b D _ (List.getElem_mem hlt)
    have h2 := (D.ok _ (List.getElem_mem hlt)).1
    have k1 : (0 : Int) < ((l[i]).length : Int) := by omega
    have k2 : (1 : Int) < ((l[i]).length : Int) := by omega
    simp only [laws_area.l0, impl_areaOf.l0, lt_t hlt, nn_t, if_true, rdL_get l i hlt, k1, k2, w1 (show i ≤ 140737488355328 by omega)]
    rw [w64 (x := rd l[i] 0 * rd l[i] 1) (by omega) (by omega), w64 (by omega) (by omega), List.drop_eq_getElem_cons hlt, List.map_cons, List.sum_cons, ← Int.add_assoc]
    exact ih k (i + 1) _ (by omega) (by omega) (by omega) (by omega) (by omega)
theorem area_ev {wd : Int} {l : List (List Int)} (D : SD wd l) : Ev (fun k => laws_area.f k l) (areaP l) ∧ Ev (fun k => impl_areaOf.f k l) (areaP l) := by
  have := fun k (hk : 10 ≤ k) => area_l D l.length k 0 0 (by omega) (by omega) (by have := D.len; omega) (by omega) (by omega)
  refine ⟨⟨10, fun k hk => ?_⟩, ⟨10, fun k hk => ?_⟩⟩
  · have h := (this k hk).1
    rw [List.drop_zero, Int.zero_add] at h
    exact h
  · have h := (this k hk).2
    rw [List.drop_zero, Int.zero_add] at h
    exact h
def topGo (l : List (List Int)) : List (List Int) → Int → Int
  | [], m => m
  | p :: r, m => topGo l r (mx m (rd p 1))
theorem topGo_facts (l : List (List Int)) : ∀ (r : List (List Int)) (m : Int), m ≤ topGo l r m ∧ (∀ p ∈ r, rd p 1 ≤ topGo l r m) ∧ ∀ y, m ≤ y → (∀ p ∈ r, rd p 1 ≤ y) → topGo l r m ≤ y
  | [], m => ⟨Int.le_refl m, by simp, fun y h _ => h⟩
  | p :: r, m => by
    obtain ⟨h1, h2, h3⟩ := topGo_facts l r (mx m (rd p 1))
    have hm : m ≤ mx m (rd p 1) ∧ rd p 1 ≤ mx m (rd p 1) := by unfold mx; split <;> omega
    show m ≤ topGo l r (mx m (rd p 1)) ∧ (∀ q ∈ p :: r, rd q 1 ≤ topGo l r (mx m (rd p 1))) ∧ ∀ y, m ≤ y → (∀ q ∈ p :: r, rd q 1 ≤ y) → topGo l r (mx m (rd p 1)) ≤ y
    refine ⟨by omega, fun q hq => ?_, fun y hy hq => h3 y ?_ fun q hq' => hq q (List.mem_cons_of_mem _ hq')⟩
    · rcases List.mem_cons.mp hq with rfl | hq
      · omega
      · exact h2 q hq
    · have := hq p List.mem_cons_self
      unfold mx
      split <;> omega
theorem strip_l0 {wd : Int} {l : List (List Int)} (D : SD wd l) (d : Nat) : ∀ (k i : Nat) (m : Int), l.length - i = d → i ≤ l.length → d < k → impl_StripBound.l0 k m l (l.length : Int) (i : Int) = some (topGo l (l.drop i) m) := by
  have hl := D.len
  induction d with
  | zero =>
    intro k i m hd hi hk
    obtain ⟨k, rfl⟩ := succ_of hk
    simp only [impl_StripBound.l0, lt_f (show l.length ≤ i by omega), if_false, List.drop_of_length_le (show l.length ≤ i by omega), topGo]
  | succ d ih =>
    intro k i m hd hi hk
    obtain ⟨k, rfl⟩ := succ_of hk
    have hlt : i < l.length := by omega
    have h2 := (D.ok _ (List.getElem_mem hlt)).1
    have k2 : (1 : Int) < ((l[i]).length : Int) := by omega
    simp only [impl_StripBound.l0, lt_t hlt, nn_t, if_true, rdL_get l i hlt, k2, w1 (show i ≤ 140737488355328 by omega)]
    rw [List.drop_eq_getElem_cons hlt]
    exact ih k (i + 1) _ (by omega) (by omega) (by omega)
theorem strip_ev {wd : Int} {l : List (List Int)} (D : SD wd l) (hf : impl_PiecesFit.f wd l = some true) : ∃ low, Ev (fun k => impl_StripBound.f k wd l) low ∧ 0 ≤ low ∧ areaP l ≤ low * wd ∧ (∀ p ∈ l, rd p 1 ≤ low) ∧ ∀ y, 0 ≤ y → areaP l ≤ wd * y → (∀ p ∈ l, rd p 1 ≤ y) → low ≤ y := by
  have hw := D.wd_ok
  have ha := area_b D
  have e : (areaP l + wd - 1).tdiv wd = (areaP l + wd - 1) / wd := Int.tdiv_eq_ediv_of_nonneg (by omega)
  have q0 : 0 ≤ (areaP l + wd - 1) / wd := Int.ediv_nonneg (by omega) (by omega)
  have q1 : (areaP l + wd - 1) / wd ≤ areaP l + wd - 1 := Int.ediv_le_self _ (by omega)
  have q2 := Int.emod_add_mul_ediv (areaP l + wd - 1) wd
  have q3 := Int.emod_lt_of_pos (areaP l + wd - 1) (show 0 < wd by omega)
  obtain ⟨t1, t2, t3⟩ := topGo_facts l l ((areaP l + wd - 1) / wd)
  refine ⟨topGo l l ((areaP l + wd - 1) / wd), ?_, by omega, ?_, t2, fun y h0 h1 h2 => t3 y ?_ h2⟩
  · unfold impl_StripBound.f
    rw [hf]
    simp only [Option.bind_some, if_true]
    refine Ev.bind (area_ev D).2 ⟨20, fun k hk => ?_⟩
    show (if wd = 0 then none else impl_StripBound.l0 k (wrap64 (Int.tdiv (wrap64 (wrap64 (areaP l + wd) - 1)) wd)) l (l.length : Int) 0) = _
    rw [if_neg (by omega), w64 (x := areaP l + wd) (by omega) (by omega), w64 (x := areaP l + wd - 1) (by omega) (by omega), e, w64 (by omega) (by omega)]
    have := strip_l0 D l.length k 0 ((areaP l + wd - 1) / wd) (by omega) (by omega) (by have := D.len; omega)
    rw [List.drop_zero] at this
    exact this
  · have h1 : (areaP l + wd - 1) / wd * wd ≤ topGo l l ((areaP l + wd - 1) / wd) * wd := Int.mul_le_mul_of_nonneg_right t1 (by omega)
    rw [Int.mul_comm wd] at q2
    omega
  · have : (areaP l + wd - 1) / wd < y + 1 := by
      refine Int.ediv_lt_of_lt_mul (by omega) ?_
      rw [Int.add_mul, Int.mul_comm y wd]
      omega
    omega
/-! overlaps -/
theorem overlap_f (a w b v : Int) (ha : 0 ≤ a ∧ a ≤ 100000) (hb : 0 ≤ b ∧ b ≤ 100000) (hw : 1 ≤ w ∧ w ≤ 100000) (hv : 1 ≤ v ∧ v ≤ 100000) : impl_overlap.f a w b v = some (decide (b < a + w ∧ a < b + v)) := by
  have uw : ∀ x : Int, 0 ≤ x → x ≤ 1000000 → IntKind.u64.wrap x = x := fun x h0 h1 => by
    simp only [IntKind.wrap, IntKind.bits, IntKind.signed]
    simp
    omega
  unfold impl_overlap.f
  by_cases h : a ≤ b
  · rw [if_pos h, uw b (by omega) (by omega), uw a (by omega) (by omega), uw w (by omega) (by omega), uw (b - a) (by omega) (by omega)]
    congr 1
    exact decide_eq_decide.mpr (by omega)
  · rw [if_neg h, uw b (by omega) (by omega), uw a (by omega) (by omega), uw v (by omega) (by omega), uw (a - b) (by omega) (by omega)]
    congr 1
    exact decide_eq_decide.mpr (by omega)
theorem hasArea_f {p : List Int} (h2 : p.length = 2) (h0 : 1 ≤ rd p 0) (h1 : 1 ≤ rd p 1) : impl_hasArea.f p = some true := by
  unfold impl_hasArea.f
  rw [if_pos (by omega), if_pos (by omega), if_pos (by omega)]
  congr 1
  apply decide_eq_true
  unfold mn
  split <;> omega
def Bes (l : List (List Int)) (c : List S44) (i j : Nat) : Bool := decide (((rd_T44 c (j : Int)).f0 < (rd_T44 c (i : Int)).f0 + wdt l (i : Int) ∧ (rd_T44 c (i : Int)).f0 < (rd_T44 c (j : Int)).f0 + wdt l (j : Int))) && decide ((rd_T44 c (j : Int)).f1 < (rd_T44 c (i : Int)).f1 + ht l (i : Int) ∧ (rd_T44 c (i : Int)).f1 < (rd_T44 c (j : Int)).f1 + ht l (j : Int))
theorem over_l1 (l : List (List Int)) (c : List S44) (hl : l.length ≤ 12) (hc : c.length = l.length) (hp : ∀ p ∈ l, p.length = 2 ∧ (1 ≤ rd p 0 ∧ rd p 0 ≤ 100) ∧ (1 ≤ rd p 1 ∧ rd p 1 ≤ 100)) (hb : ∀ i : Nat, i < l.length → (0 ≤ (rd_T44 c (i : Int)).f0 ∧ (rd_T44 c (i : Int)).f0 ≤ 10000) ∧ (0 ≤ (rd_T44 c (i : Int)).f1 ∧ (rd_T44 c (i : Int)).f1 ≤ 10000)) (i : Nat) (hi : i < l.length) (Q : Bool) (H : Ev (fun k => impl_DoOverlap.l0 k l c c (c.length : Int) ((i + 1 : Nat) : Int)) Q) (d : Nat) : ∀ j : Nat, i - j = d → j ≤ i → Ev (fun k => impl_DoOverlap.l1 k l c (i : Int) c (c.length : Int) (i : Int) (i : Int) (j : Int) ((rd_T44 c (i : Int)).f0) ((rd_T44 c (i : Int)).f1)) (if ((List.range i).drop j).any (Bes l c i) then true else Q) := by
  induction d with
  | zero =>
    intro j hd hj
    have e : j = i := by omega
    subst e
    rw [List.drop_of_length_le (by simp)]
    refine Ev.step (fun k => ?_) H
    simp only [impl_DoOverlap.l1, lt_f (Nat.le_refl j), if_false, w1 (show j ≤ 140737488355328 by omega)]
  | succ d ih =>
    intro j hd hj
    have hlt : j < i := by omega
    have IH := ih (j + 1) (by omega) (by omega)
    rw [List.drop_eq_getElem_cons (show j < (List.range i).length by simpa using hlt), List.getElem_range, List.any_cons]
    have hpi := hp _ (List.getElem_mem hi)
    have hpj := hp _ (List.getElem_mem (show j < l.length by omega))
    have e1 := at_w l i hi
    have e2 := at_w l j (by omega)
    have bi := hb i hi
    have bj := hb j (by omega)
    have k1 : j < c.length := by omega
    have k2 : (0 : Int) < ((l[i]).length : Int) := by omega
    have k3 : (0 : Int) < ((l[j]).length : Int) := by omega
    have k4 : (1 : Int) < ((l[i]).length : Int) := by omega
    have k5 : (1 : Int) < ((l[j]).length : Int) := by omega
    have o1 := overlap_f (rd_T44 c (i : Int)).f0 (rd l[i] 0) (rd_T44 c (j : Int)).f0 (rd l[j] 0) (by omega) (by omega) (by omega) (by omega)
    have o2 := overlap_f (rd_T44 c (i : Int)).f1 (rd l[i] 1) (rd_T44 c (j : Int)).f1 (rd l[j] 1) (by omega) (by omega) (by omega) (by omega)
    have hB : Bes l c i j = (decide ((rd_T44 c (j : Int)).f0 < (rd_T44 c (i : Int)).f0 + rd l[i] 0 ∧ (rd_T44 c (i : Int)).f0 < (rd_T44 c (j : Int)).f0 + rd l[j] 0) && decide ((rd_T44 c (j : Int)).f1 < (rd_T44 c (i : Int)).f1 + rd l[i] 1 ∧ (rd_T44 c (i : Int)).f1 < (rd_T44 c (j : Int)).f1 + rd l[j] 1)) := by
      unfold Bes
      rw [e1.1, e1.2, e2.1, e2.2]
    by_cases c1 : (rd_T44 c (j : Int)).f0 < (rd_T44 c (i : Int)).f0 + rd l[i] 0 ∧ (rd_T44 c (i : Int)).f0 < (rd_T44 c (j : Int)).f0 + rd l[j] 0
    · rw [decide_eq_true c1] at o1 hB
      by_cases c2 : (rd_T44 c (j : Int)).f1 < (rd_T44 c (i : Int)).f1 + rd l[i] 1 ∧ (rd_T44 c (i : Int)).f1 < (rd_T44 c (j : Int)).f1 + rd l[j] 1
      · rw [decide_eq_true c2] at o2 hB
        rw [hB]
        simp only [Bool.true_and, Bool.true_or, if_true]
        refine Ev.step (f := fun _ => some true) (fun k => ?_) (Ev.now _)
        simp only [impl_DoOverlap.l1, lt_t hlt, nn_t, if_true, lt_t k1, lt_t hi, lt_t (show j < l.length by omega), rdL_get l i hi, rdL_get l j (show j < l.length by omega), hasArea_f hpi.1 hpi.2.1.1 hpi.2.2.1, hasArea_f hpj.1 hpj.2.1.1 hpj.2.2.1, Option.bind_some, k2, k3, k4, k5, o1, o2]
      · rw [decide_eq_false c2] at o2 hB
        rw [hB]
        simp only [Bool.and_false, Bool.false_or]
        refine Ev.step (fun k => ?_) IH
        simp only [impl_DoOverlap.l1, lt_t hlt, nn_t, if_true, lt_t k1, lt_t hi, lt_t (show j < l.length by omega), rdL_get l i hi, rdL_get l j (show j < l.length by omega), hasArea_f hpi.1 hpi.2.1.1 hpi.2.2.1, hasArea_f hpj.1 hpj.2.1.1 hpj.2.2.1, Option.bind_some, k2, k3, k4, k5, o1, o2, Bool.false_eq_true, if_false, w1 (show j ≤ 140737488355328 by omega)]
    · rw [decide_eq_false c1] at o1 hB
      rw [hB]
      simp only [Bool.false_and, Bool.false_or]
      refine Ev.step (fun k => ?_) IH
      simp only [impl_DoOverlap.l1, lt_t hlt, nn_t, if_true, lt_t k1, lt_t hi, lt_t (show j < l.length by omega), rdL_get l i hi, rdL_get l j (show j < l.length by omega), hasArea_f hpi.1 hpi.2.1.1 hpi.2.2.1, hasArea_f hpj.1 hpj.2.1.1 hpj.2.2.1, Option.bind_some, k2, k3, o1, Bool.false_eq_true, if_false, w1 (show j ≤ 140737488355328 by omega)]
theorem over_ev (l : List (List Int)) (c : List S44) (hl : l.length ≤ 12) (hc : c.length = l.length) (hp : ∀ p ∈ l, p.length = 2 ∧ (1 ≤ rd p 0 ∧ rd p 0 ≤ 100) ∧ (1 ≤ rd p 1 ∧ rd p 1 ≤ 100)) (hb : ∀ i : Nat, i < l.length → (0 ≤ (rd_T44 c (i : Int)).f0 ∧ (rd_T44 c (i : Int)).f0 ≤ 10000) ∧ (0 ≤ (rd_T44 c (i : Int)).f1 ∧ (rd_T44 c (i : Int)).f1 ≤ 10000)) : Ev (fun k => impl_DoOverlap.f k l c) ((List.range l.length).any fun i => (List.range i).any (Bes l c i)) := by
  have gen : ∀ (d i : Nat), l.length - i = d → i ≤ l.length → Ev (fun k => impl_DoOverlap.l0 k l c c (c.length : Int) (i : Int)) (((List.range l.length).drop i).any fun i => (List.range i).any (Bes l c i)) := by
    intro d
    induction d with
    | zero =>
      intro i hd hi
      rw [List.drop_of_length_le (by simp; omega)]
      refine Ev.step (f := fun _ => some false) (fun k => ?_) (Ev.now _)
      simp only [impl_DoOverlap.l0, lt_f (show c.length ≤ i by omega), if_false]
    | succ d ih =>
      intro i hd hi
      have hlt : i < l.length := by omega
      have := over_l1 l c hl hc hp hb i hlt _ (ih (i + 1) (by omega) (by omega)) i 0 (by omega) (by omega)
      rw [List.drop_zero] at this
      rw [List.drop_eq_getElem_cons (show i < (List.range l.length).length by simpa using hlt), List.getElem_range, List.any_cons]
      have e : (if (List.range i).any (Bes l c i) then true else ((List.range l.length).drop (i + 1)).any fun i => (List.range i).any (Bes l c i)) = ((List.range i).any (Bes l c i) || ((List.range l.length).drop (i + 1)).any fun i => (List.range i).any (Bes l c i)) := by
        cases (List.range i).any (Bes l c i) <;> rfl
      rw [← e]
      refine Ev.step (fun k => ?_) this
      simp only [impl_DoOverlap.l0, lt_t (show i < c.length by omega), nn_t, if_true]
      rfl
  have := gen l.length 0 (by omega) (by omega)
  rw [List.drop_zero] at this
  unfold impl_DoOverlap.f
  simp only [show (c.length : Int) = (l.length : Int) by omega, if_true]
  rw [← hc] at this ⊢
  exact this
theorem shv_has (x : List Int) (v : Int) (hx : x.length ≤ 100) (hv : v ∉ x) : Ev (fun k => laws_has.f k x v) false := by
  have gen : ∀ (d i : Nat), x.length - i = d → i ≤ x.length → Ev (fun k => laws_has.l0 k v x (x.length : Int) (i : Int)) false := by
    intro d
    induction d with
    | zero =>
      intro i hd hi
      refine Ev.step (f := fun _ => some false) (fun k => ?_) (Ev.now _)
      simp only [laws_has.l0, lt_f (show x.length ≤ i by omega), if_false]
    | succ d ih =>
      intro i hd hi
      have hlt : i < x.length := by omega
      have hne : ¬ x[i] = v := fun e => hv (by rw [← e]; exact List.getElem_mem hlt)
      refine Ev.step (fun k => ?_) (ih (i + 1) (by omega) (by omega))
      simp only [laws_has.l0, lt_t hlt, nn_t, if_true, rd_get x i hlt, hne, if_false, w1 (show i ≤ 140737488355328 by omega)]
  exact gen x.length 0 (by omega) (by omega)
/-! pieces turned -/
theorem copy_l (ws : List (List Int)) (hl : ws.length ≤ 100) (hw : ∀ w ∈ ws, w.length ≤ 100) (d : Nat) : ∀ (k i : Nat), ws.length - i = d → i ≤ ws.length → d < k → impl_copyLists.l0 k (ws.take i) ws (ws.length : Int) (i : Int) = some ws := by
  induction d with
  | zero =>
    intro k i hd hi hk
    obtain ⟨k, rfl⟩ := succ_of hk
    simp only [impl_copyLists.l0, lt_f (show ws.length ≤ i by omega), if_false]
    rw [List.take_of_length_le (by omega)]
  | succ d ih =>
    intro k i hd hi hk
    obtain ⟨k, rfl⟩ := succ_of hk
    have hlt : i < ws.length := by omega
    have h1 := hw _ (List.getElem_mem hlt)
    have htl : (ws.take i).length < 5864062014805 := by rw [List.length_take]; omega
    simp only [impl_copyLists.l0, lt_t hlt, nn_t, if_true, rdL_get ws i hlt, Option.bind_some, List.length_nil, Nat.zero_add, List.nil_append, htl, w1 (show i ≤ 140737488355328 by omega)]
    rw [if_pos (by omega)]
    have := ih k (i + 1) (by omega) (by omega) (by omega)
    rw [← List.take_append_getElem hlt] at this
    exact this
theorem turned_ev {wd : Int} {l : List (List Int)} (D : SD wd l) (hf : impl_PiecesFit.f wd l = some true) : Ev (fun k => impl_TurnedPieces.f k l wd) (l.map (turnOne wd), true) := ⟨400, fun k hk => by
  have hl := D.len
  have hx : ∀ p ∈ l, p.length = 2 := fun p hp => (D.ok p hp).1
  show impl_TurnedPieces.f k l wd = _
  unfold impl_TurnedPieces.f
  have hc := copy_l l (by omega) (fun p hp => by rw [hx p hp]; omega) l.length k 0 (by omega) (by omega) (by omega)
  rw [List.take_zero] at hc
  have hc2 : impl_copyLists.f k l = some l := hc
  rw [hf, Option.bind_some, if_pos rfl, hc2, Option.bind_some]
  have := impl_turn_l l wd (by omega) hx l.length k 0 (by omega) (by omega) (by omega)
  rw [List.take_zero, List.drop_zero, List.map_nil, List.nil_append, Int.ofNat_zero] at this
  rw [this]
  rfl⟩
theorem turned_row {wd : Int} {l : List (List Int)} (D : SD wd l) : ∀ p ∈ l, (turnOne wd p).length = 2 ∧ (1 ≤ rd (turnOne wd p) 0 ∧ rd (turnOne wd p) 0 ≤ wd) ∧ (1 ≤ rd (turnOne wd p) 1 ∧ rd (turnOne wd p) 1 ≤ 100) ∧ rd (turnOne wd p) 0 * rd (turnOne wd p) 1 = rd p 0 * rd p 1 ∧ ¬ (rd (turnOne wd p) 1 > rd (turnOne wd p) 0 ∧ rd (turnOne wd p) 1 ≤ wd) := fun p hp => by
  obtain ⟨h2, h0, h1⟩ := D.ok p hp
  have hw := D.wd_ok
  unfold turnOne
  by_cases h : rd p 1 > rd p 0 ∧ rd p 1 ≤ wd
  · rw [if_pos h]
    have e0 : rd [rd p 1, rd p 0] 0 = rd p 1 := rfl
    have e1 : rd [rd p 1, rd p 0] 1 = rd p 0 := rfl
    rw [e0, e1]
    refine ⟨rfl, by omega, by omega, Int.mul_comm _ _, by omega⟩
  · rw [if_neg h]
    exact ⟨h2, h0, by omega, rfl, h⟩
/-! the law -/
section
variable {wd : Int} {l : List (List Int)} (D : SD wd l) (a : List S44) (x : Int) (b : List S44) (y : Int)
include D
theorem law_l3 (A : Laid wd l (a, x)) (B : Laid wd l (b, y)) (hf : impl_PiecesFit.f wd l = some true) (d : Nat) : ∀ i : Nat, l.length - i = d → i ≤ l.length → Ev (fun k => laws_FnShelves.l3 k wd l a y (l.map (turnOne wd)) ((l.map (turnOne wd)).length : Int) (i : Int)) true := by
  have hl := D.len
  have hw := D.wd_ok
  have ha := area_b D
  have hup : 0 ≤ y ∧ y ≤ 100 * (l.length : Int) := B.up
  have har : areaP l ≤ wd * y := B.area
  have hml : (l.map (turnOne wd)).length = l.length := List.length_map _
  have hwy : wd * y ≤ 15 * 800 := Int.mul_le_mul (by omega) (by omega) (by omega) (by omega)
  induction d with
  | zero =>
    intro i hd hi
    have EW : Ev (fun k => impl_WasteOf.f k wd y l) (wd * y - areaP l) := by
      unfold impl_WasteOf.f
      rw [hf, within_f, decide_eq_true (show 0 ≤ y ∧ y ≤ 1200 by omega)]
      simp only [Option.bind_some, if_true]
      refine Ev.bind (area_ev D).2 ?_
      rw [w64 (x := wd * y) (by omega) (by omega), w64 (x := wd * y - areaP l) (by omega) (by omega)]
      have : mx (-1) (wd * y - areaP l) = wd * y - areaP l := by
        unfold mx
        rw [if_pos (by omega)]
      rw [this]
      exact Ev.now _
    refine Ev.step (f := fun k => (impl_WasteOf.f k wd y l).bind fun t287 => ((laws_area.f k l).bind fun t288 => (if t287 = (wrap64 ((wrap64 (wd * y)) - t288)) then (if (l.length : Int) < 1 then (some true) else (if 0 < (l.length : Int) then (if 0 < (a.length : Int) then ((impl_DoOverlap.f k (([rd_L3 l 0, rd_L3 l 0] : List (List Int))) (([(⟨(rd_T44 a 0).f0, (rd_T44 a 0).f1⟩ : S44), (⟨(rd_T44 a 0).f0, (rd_T44 a 0).f1⟩ : S44)] : List (S44)))).bind fun t299 => (some t299)) else (none)) else (none))) else (some false)))) (fun k => ?_) (Ev.bind EW (Ev.bind (area_ev D).1 ?_))
    · simp only [laws_FnShelves.l3, lt_f (show (l.map (turnOne wd)).length ≤ i by omega), if_false]
    · rw [w64 (x := wd * y) (by omega) (by omega), w64 (x := wd * y - areaP l) (by omega) (by omega)]
      simp only [if_true]
      by_cases h0 : l.length = 0
      · have : (l.length : Int) < 1 := by omega
        simp only [this, if_true]
        exact Ev.now _
      · have k1 : ¬ (l.length : Int) < 1 := by omega
        have k2 : (0 : Int) < (l.length : Int) := by omega
        have k3 : (0 : Int) < (a.length : Int) := by have := A.len; simp only at this; omega
        simp only [k1, k2, k3, if_true, if_false]
        have hlt : 0 < l.length := by omega
        have e0 : rd_L3 l 0 = l[0] := rdL_get l 0 hlt
        have hp := D.ok _ (List.getElem_mem hlt)
        have hA := A.at_ 0 (by omega) (by omega)
        have hAu := A.up
        have hw0 := at_w l 0 hlt
        rw [show ((0 : Nat) : Int) = 0 from rfl] at hw0
        have hO := over_ev [rd_L3 l 0, rd_L3 l 0] [(⟨(rd_T44 a 0).f0, (rd_T44 a 0).f1⟩ : S44), (⟨(rd_T44 a 0).f0, (rd_T44 a 0).f1⟩ : S44)] (by simp) rfl (fun p hp' => by
          simp only [List.mem_cons, List.not_mem_nil, or_false, or_self] at hp'
          rw [hp', e0]
          omega) (fun i hi => by
          have : i = 0 ∨ i = 1 := by simp at hi; omega
          have hA' : (0 ≤ (rd_T44 a 0).f0 ∧ 0 ≤ (rd_T44 a 0).f1) ∧ (rd_T44 a 0).f0 + wdt l 0 ≤ wd ∧ (rd_T44 a 0).f1 + ht l 0 ≤ x := hA
          have hAu' : 0 ≤ x ∧ x ≤ 100 * (l.length : Int) := hAu
          rw [hw0.1, hw0.2] at hA'
          rcases this with rfl | rfl
          · show (0 ≤ (rd_T44 a 0).f0 ∧ (rd_T44 a 0).f0 ≤ 10000) ∧ (0 ≤ (rd_T44 a 0).f1 ∧ (rd_T44 a 0).f1 ≤ 10000)
            omega
          · show (0 ≤ (rd_T44 a 0).f0 ∧ (rd_T44 a 0).f0 ≤ 10000) ∧ (0 ≤ (rd_T44 a 0).f1 ∧ (rd_T44 a 0).f1 ≤ 10000)
            omega)
        have ht' : ((List.range ([rd_L3 l 0, rd_L3 l 0] : List (List Int)).length).any fun i => (List.range i).any (Bes [rd_L3 l 0, rd_L3 l 0] [(⟨(rd_T44 a 0).f0, (rd_T44 a 0).f1⟩ : S44), (⟨(rd_T44 a 0).f0, (rd_T44 a 0).f1⟩ : S44)] i)) = true := by
          rw [List.any_eq_true]
          refine ⟨1, by simp, ?_⟩
          rw [List.any_eq_true]
          refine ⟨0, by simp, ?_⟩
          show (decide ((rd_T44 a 0).f0 < (rd_T44 a 0).f0 + rd (rd_L3 l 0) 0 ∧ (rd_T44 a 0).f0 < (rd_T44 a 0).f0 + rd (rd_L3 l 0) 0) && decide ((rd_T44 a 0).f1 < (rd_T44 a 0).f1 + rd (rd_L3 l 0) 1 ∧ (rd_T44 a 0).f1 < (rd_T44 a 0).f1 + rd (rd_L3 l 0) 1)) = true
          rw [e0, decide_eq_true (by omega), decide_eq_true (by omega)]
          rfl
        rw [ht'] at hO
        exact Ev.bind hO (Ev.now _)
  | succ d ih =>
    intro i hd hi
    have hlt : i < l.length := by omega
    have hltm : i < (l.map (turnOne wd)).length := by omega
    have em : rd_L3 (l.map (turnOne wd)) (i : Int) = turnOne wd l[i] := by rw [rdL_get _ i hltm, List.getElem_map]
    obtain ⟨t2, t0, t1, tp, tn⟩ := turned_row D _ (List.getElem_mem hlt)
    have h2 := (D.ok _ (List.getElem_mem hlt)).1
    have k0 : ((turnOne wd l[i]).length : Int) = 2 := by omega
    have k1 : (0 : Int) < ((turnOne wd l[i]).length : Int) := by omega
    have k2 : (1 : Int) < ((turnOne wd l[i]).length : Int) := by omega
    have k3 : (0 : Int) < ((l[i]).length : Int) := by omega
    have k4 : (1 : Int) < ((l[i]).length : Int) := by omega
    refine Ev.step (fun k => ?_) (ih (i + 1) (by omega) (by omega))
    simp only [laws_FnShelves.l3, lt_t hltm, lt_t hlt, nn_t, if_true, em, rdL_get l i hlt, k1, k2, k3, k4, tp, w1 (show i ≤ 140737488355328 by omega)]
    rw [if_pos k0]
    by_cases c1 : rd (turnOne wd l[i]) 1 > rd (turnOne wd l[i]) 0
    · have c2 : ¬ rd (turnOne wd l[i]) 1 ≤ wd := fun h => tn ⟨c1, h⟩
      rw [if_pos c1, if_neg c2]
    · rw [if_neg c1]
theorem law_l2 (A : Laid wd l (a, x)) (B : Laid wd l (b, y)) (hf : impl_PiecesFit.f wd l = some true) (d : Nat) : ∀ i : Nat, l.length - i = d → i ≤ l.length → Ev (fun k => laws_FnShelves.l2 k wd l a x b y (l.length : Int) (i : Int)) true := by
  have hl := D.len
  have hw := D.wd_ok
  have hAl : a.length = l.length := A.len
  have hBl : b.length = l.length := B.len
  have hAu : 0 ≤ x ∧ x ≤ 100 * (l.length : Int) := A.up
  have hBu : 0 ≤ y ∧ y ≤ 100 * (l.length : Int) := B.up
  induction d with
  | zero =>
    intro i hd hi
    have hft : impl_PiecesFit.f wd (l.map (turnOne wd)) = some true := fits_true (by omega) (by rw [List.length_map]; omega) (fun p hp => by
      obtain ⟨q, hq, rfl⟩ := List.mem_map.mp hp
      obtain ⟨t2, t0, t1, _, _⟩ := turned_row D q hq
      exact ⟨t2, t0, t1⟩)
    have hml : ((l.map (turnOne wd)).length : Int) = (l.length : Int) := by rw [List.length_map]
    refine Ev.step (f := fun k => (impl_TurnedPieces.f k l wd).bind fun bt272 => (if bt272.2 = true then (if (bt272.1.length : Int) = (l.length : Int) then ((impl_PiecesFit.f wd bt272.1).bind fun t276 => (laws_FnShelves.j4 k wd l a y bt272.1 (!t276))) else (laws_FnShelves.j4 k wd l a y bt272.1 true)) else (laws_FnShelves.j4 k wd l a y bt272.1 true))) (fun k => ?_) (Ev.bind (turned_ev D hf) ?_)
    · simp only [laws_FnShelves.l2, lt_f (show l.length ≤ i by omega), if_false]
    · simp only [if_true, hml, hft, Option.bind_some, Bool.not_true]
      refine Ev.step (fun k => ?_) (law_l3 D a x b y A B hf l.length 0 (by omega) (by omega))
      simp only [laws_FnShelves.j4, Bool.false_eq_true, if_false]
      rfl
  | succ d ih =>
    intro i hd hi
    have hlt : i < l.length := by omega
    have h2 := (D.ok _ (List.getElem_mem hlt)).1
    have k3 : (0 : Int) < ((l[i]).length : Int) := by omega
    have k4 : (1 : Int) < ((l[i]).length : Int) := by omega
    have pA : (0 ≤ (rd_T44 a (i : Int)).f0 ∧ 0 ≤ (rd_T44 a (i : Int)).f1) ∧ (rd_T44 a (i : Int)).f0 + wdt l (i : Int) ≤ wd ∧ (rd_T44 a (i : Int)).f1 + ht l (i : Int) ≤ x := A.at_ (i : Int) (by omega) (by omega)
    have pB : (0 ≤ (rd_T44 b (i : Int)).f0 ∧ 0 ≤ (rd_T44 b (i : Int)).f1) ∧ (rd_T44 b (i : Int)).f0 + wdt l (i : Int) ≤ wd ∧ (rd_T44 b (i : Int)).f1 + ht l (i : Int) ≤ y := B.at_ (i : Int) (by omega) (by omega)
    obtain ⟨_, hp0, hp1⟩ := D.ok _ (List.getElem_mem hlt)
    obtain ⟨e1, e2⟩ := at_w l i hlt
    rw [e1, e2] at pA pB
    have n1 : ¬ (rd_T44 a (i : Int)).f0 < 0 := by omega
    have n2 : ¬ (rd_T44 a (i : Int)).f1 < 0 := by omega
    have n3 : ¬ (rd_T44 b (i : Int)).f0 < 0 := by omega
    have n4 : ¬ (rd_T44 b (i : Int)).f1 < 0 := by omega
    have n5 : ¬ wrap64 ((rd_T44 a (i : Int)).f0 + rd l[i] 0) > wd := by rw [w64 (by omega) (by omega)]; omega
    have n6 : ¬ wrap64 ((rd_T44 b (i : Int)).f0 + rd l[i] 0) > wd := by rw [w64 (by omega) (by omega)]; omega
    have n7 : ¬ wrap64 ((rd_T44 a (i : Int)).f1 + rd l[i] 1) > x := by rw [w64 (by omega) (by omega)]; omega
    have n8 : ¬ wrap64 ((rd_T44 b (i : Int)).f1 + rd l[i] 1) > y := by rw [w64 (by omega) (by omega)]; omega
    refine Ev.step (fun k => ?_) (ih (i + 1) (by omega) (by omega))
    simp only [laws_FnShelves.l2, lt_t hlt, nn_t, if_true, lt_t (show i < a.length by omega), lt_t (show i < b.length by omega), rdL_get l i hlt, k3, k4, n1, n2, n3, n4, n5, n6, n7, n8, if_false, w1 (show i ≤ 140737488355328 by omega)]
theorem law_l1 (A : Laid wd l (a, x)) (B : Laid wd l (b, y)) (hf : impl_PiecesFit.f wd l = some true) (d : Nat) : ∀ i : Nat, l.length - i = d → i ≤ l.length → Ev (fun k => laws_FnShelves.l1 k wd l a x b y (orderGo l l.length 0 []) ((orderGo l l.length 0 []).take i) ((orderGo l l.length 0 []).length : Int) (i : Int)) true := by
  have hl := D.len
  obtain ⟨o1, o2⟩ := order_facts l
  have hol := order_len l
  generalize orderGo l l.length 0 [] = o at o1 o2 hol ⊢
  induction d with
  | zero =>
    intro i hd hi
    refine Ev.step (fun k => ?_) (law_l2 D a x b y A B hf l.length 0 (by omega) (by omega))
    simp only [laws_FnShelves.l1, lt_f (show o.length ≤ i by omega), if_false]
    rfl
  | succ d ih =>
    intro i hd hi
    have hlt : i < o.length := by omega
    have hb := (o2 _).mp (List.getElem_mem hlt)
    obtain ⟨v, hv⟩ := Int.eq_ofNat_of_zero_le hb.1
    have hvl : v < l.length := by omega
    have hnd : o[i] ∉ o.take i := by
      intro h
      obtain ⟨j, hj, e⟩ := List.mem_iff_getElem.mp h
      rw [List.length_take] at hj
      rw [List.getElem_take] at e
      have := (List.pairwise_iff_getElem.mp o1) j i (by omega) hlt (by omega)
      rw [e] at this
      have := this.2 rfl
      omega
    have IH := ih (i + 1) (by omega) (by omega)
    rw [← List.take_append_getElem hlt] at IH
    have n1 : ¬ o[i] < 0 := by omega
    have n2 : ¬ o[i] ≥ (l.length : Int) := by omega
    have htl : (o.take i).length < 17592186044416 := by rw [List.length_take]; omega
    refine Ev.step (f := fun k => (laws_has.f k (o.take i) o[i]).bind fun t238 => (if t238 = true then (some false) else laws_FnShelves.l1 k wd l a x b y o (o.take i ++ [o[i]]) (o.length : Int) ((i + 1 : Nat) : Int))) (fun k => ?_) (Ev.bind (shv_has (o.take i) o[i] (by rw [List.length_take]; omega) hnd) ?_)
    · by_cases h0 : i = 0
      · have hg : ¬ (i : Int) > 0 := by omega
        simp only [laws_FnShelves.l1, lt_t hlt, nn_t, if_true, rd_get o i hlt, n1, n2, if_false, hg, htl, w1 (show i ≤ 140737488355328 by omega)]
      · have hg : (i : Int) > 0 := by omega
        have hj : i - 1 < o.length := by omega
        have ew : wrap64 ((i : Int) - 1) = ((i - 1 : Nat) : Int) := by rw [w64 (by omega) (by omega)]; omega
        have hbj := (o2 _).mp (List.getElem_mem hj)
        obtain ⟨u, hu⟩ := Int.eq_ofNat_of_zero_le hbj.1
        have hul : u < l.length := by omega
        have hR := (List.pairwise_iff_getElem.mp o1) (i - 1) i hj hlt (by omega)
        rw [hu, hv] at hR
        have eu := (at_w l u hul).2
        have ev := (at_w l v hvl).2
        obtain ⟨R1, R2⟩ := hR
        rw [eu, ev] at R1 R2
        have q1 := (D.ok _ (List.getElem_mem hul)).1
        have q2 := (D.ok _ (List.getElem_mem hvl)).1
        have k1 : (1 : Int) < ((l[u]).length : Int) := by omega
        have k2 : (1 : Int) < ((l[v]).length : Int) := by omega
        have n3 : ¬ rd l[u] 1 < rd l[v] 1 := by omega
        have n1' : ¬ ((v : Nat) : Int) < 0 := by omega
        have n2' : ¬ ((v : Nat) : Int) ≥ (l.length : Int) := by omega
        simp only [laws_FnShelves.l1, lt_t hlt, nn_t, if_true, rd_get o i hlt, hv, n1', n2', if_false, hg, ew, lt_t hj, rd_get o (i - 1) hj, hu, lt_t hul, lt_t hvl, rdL_get l u hul, rdL_get l v hvl, k1, k2, n3, htl, w1 (show i ≤ 140737488355328 by omega)]
        by_cases c : rd l[u] 1 = rd l[v] 1
        · have n4 : ¬ ((u : Nat) : Int) > ((v : Nat) : Int) := by have := R2 c; omega
          simp only [c, if_true, n4, if_false]
        · simp only [c, if_false]
    · simp only [Bool.false_eq_true, if_false]
      exact IH
end
theorem law_l0 {wd : Int} {l : List (List Int)} (D : SD wd l) (a : List S44) (x : Int) (b : List S44) (y low : Int) (A : Laid wd l (a, x)) (B : Laid wd l (b, y)) (hf : impl_PiecesFit.f wd l = some true) (h1 : low ≤ y) (h2 : y ≤ x) (h3 : ∀ high, 0 ≤ high → (∀ p ∈ l, rd p 1 ≤ high) → x * wd ≤ high * wd + 2 * areaP l) (h4 : 0 ≤ low ∧ areaP l ≤ low * wd ∧ ∀ p ∈ l, rd p 1 ≤ low) (d : Nat) : ∀ (i : Nat) (m : Int), l.length - i = d → i ≤ l.length → 0 ≤ m → (∀ p ∈ l.take i, rd p 1 ≤ m) → (∀ z, 0 ≤ z → (∀ p ∈ l, rd p 1 ≤ z) → m ≤ z) → Ev (fun k => laws_FnShelves.l0 k wd l a x b y (orderGo l l.length 0 []) low m (l.length : Int) (i : Int)) true := by
  have hl := D.len
  have hw := D.wd_ok
  have hAl : a.length = l.length := A.len
  have hBl : b.length = l.length := B.len
  have hAu : 0 ≤ x ∧ x ≤ 100 * (l.length : Int) := A.up
  have hBu : 0 ≤ y ∧ y ≤ 100 * (l.length : Int) := B.up
  have ha := area_b D
  have hol := order_len l
  have noov : ∀ (c : List S44) (z : Int), Laid wd l (c, z) → z ≤ 800 → Ev (fun k => impl_DoOverlap.f k l c) false := fun c z C hz => by
    have hO := over_ev l c (by omega) C.len (fun p hp => by have := D.ok p hp; omega) (fun i hi => by
      have pC : (0 ≤ (rd_T44 c (i : Int)).f0 ∧ 0 ≤ (rd_T44 c (i : Int)).f1) ∧ (rd_T44 c (i : Int)).f0 + wdt l (i : Int) ≤ wd ∧ (rd_T44 c (i : Int)).f1 + ht l (i : Int) ≤ z := C.at_ (i : Int) (by omega) (by omega)
      have := sd_each D (i : Int) (by omega) (by omega)
      omega)
    have hz : ((List.range l.length).any fun i => (List.range i).any (Bes l c i)) = false := by
      rw [Bool.eq_false_iff]
      intro h
      rw [List.any_eq_true] at h
      obtain ⟨i, hi, h⟩ := h
      rw [List.any_eq_true] at h
      obtain ⟨j, hj, h⟩ := h
      rw [List.mem_range] at hi hj
      have hd : Dj l c (i : Int) (j : Int) := C.dj (i : Int) (j : Int) (by omega) (by omega) (by omega) (by omega) (by omega)
      unfold Bes at h
      rw [Bool.and_eq_true, decide_eq_true_eq, decide_eq_true_eq] at h
      unfold Dj at hd
      omega
    rw [hz] at hO
    exact hO
  induction d with
  | zero =>
    intro i m hd hi hm0 hm1 hm2
    have hmall : ∀ p ∈ l, rd p 1 ≤ m := fun p hp => hm1 p (by rw [List.take_of_length_le (by omega)]; exact hp)
    have hml := hm2 low h4.1 h4.2.2
    have hbnd := h3 m hm0 hmall
    have m1 : x * wd ≤ 800 * 15 := Int.mul_le_mul (by omega) (by omega) (by omega) (by omega)
    have m2 : 0 ≤ x * wd := Int.mul_nonneg (by omega) (by omega)
    have m3 : m * wd ≤ 800 * 15 := Int.mul_le_mul (by omega) (by omega) (by omega) (by omega)
    have m4 : 0 ≤ m * wd := Int.mul_nonneg (by omega) (by omega)
    have m5 : low * wd ≤ 800 * 15 := Int.mul_le_mul (by omega) (by omega) (by omega) (by omega)
    have m6 : 0 ≤ low * wd := Int.mul_nonneg (by omega) (by omega)
    have c1 : (a.length : Int) = (l.length : Int) := by omega
    have c2 : (b.length : Int) = (l.length : Int) := by omega
    have c3 : ((orderGo l l.length 0 []).length : Int) = (l.length : Int) := by omega
    have n1 : ¬ y < low := by omega
    have n2 : ¬ y > x := by omega
    have n3 : ¬ wrap64 (x * wd) > wrap64 (wrap64 (m * wd) + wrap64 (2 * areaP l)) := by
      rw [w64 (x := x * wd) (by omega) (by omega), w64 (x := m * wd) (by omega) (by omega), w64 (x := 2 * areaP l) (by omega) (by omega), w64 (by omega) (by omega)]
      omega
    have n4 : ¬ low < m := by omega
    have n5 : decide (wrap64 (low * wd) < areaP l) = false := by
      rw [w64 (by omega) (by omega)]
      exact decide_eq_false (by omega)
    have HJ : Ev (fun k => laws_FnShelves.j1 k wd l a x b y (orderGo l l.length 0 []) false) true := by
      refine Ev.step (fun k => ?_) (law_l1 D a x b y A B hf l.length 0 (by omega) (by omega))
      simp only [laws_FnShelves.j1, Bool.false_eq_true, if_false]
      rfl
    refine Ev.step (f := fun k => (laws_area.f k l).bind fun t230 => (if (wrap64 (x * wd)) > (wrap64 ((wrap64 (m * wd)) + (wrap64 (2 * t230)))) then (laws_FnShelves.j1 k wd l a x b y (orderGo l l.length 0 []) true) else ((impl_DoOverlap.f k l a).bind fun t231 => (if t231 = true then (laws_FnShelves.j1 k wd l a x b y (orderGo l l.length 0 []) true) else ((impl_DoOverlap.f k l b).bind fun t232 => (if t232 = true then (laws_FnShelves.j1 k wd l a x b y (orderGo l l.length 0 []) true) else ((laws_area.f k l).bind fun t233 => (laws_FnShelves.j1 k wd l a x b y (orderGo l l.length 0 []) (decide ((wrap64 (low * wd)) < t233)))))))))) (fun k => ?_) (Ev.bind (area_ev D).1 ?_)
    · simp only [laws_FnShelves.l0, lt_f (show l.length ≤ i by omega), if_false, hf, Option.bind_some, if_true, c1, c2, c3, n1, n2, n4]
    · simp only [n3, if_false]
      refine Ev.bind (noov a x A (by omega)) ?_
      simp only [Bool.false_eq_true, if_false]
      refine Ev.bind (noov b y B (by omega)) ?_
      simp only [Bool.false_eq_true, if_false]
      refine Ev.bind (area_ev D).1 ?_
      simp only [n5]
      exact HJ
  | succ d ih =>
    intro i m hd hi hm0 hm1 hm2
    have hlt : i < l.length := by omega
    obtain ⟨q1, q2, q3⟩ := D.ok _ (List.getElem_mem hlt)
    have k1 : (1 : Int) < ((l[i]).length : Int) := by omega
    have hmx : m ≤ mx m (rd l[i] 1) ∧ rd l[i] 1 ≤ mx m (rd l[i] 1) := by unfold mx; split <;> omega
    refine Ev.step (fun k => ?_) (ih (i + 1) (mx m (rd l[i] 1)) (by omega) (by omega) (by omega) (fun p hp => ?_) (fun z hz hp => ?_))
    · simp only [laws_FnShelves.l0, lt_t hlt, nn_t, if_true, rdL_get l i hlt, k1, w1 (show i ≤ 140737488355328 by omega)]
    · rw [← List.take_append_getElem hlt] at hp
      rcases List.mem_append.mp hp with hp | hp
      · have := hm1 p hp
        omega
      · rw [List.mem_singleton] at hp
        rw [hp]
        omega
    · have e1 := hm2 z hz hp
      have e2 := hp _ (List.getElem_mem hlt)
      unfold mx
      split <;> omega
theorem FnShelves : laws_FnShelves.Pure := by
  intro l0 _ _ _
  show ∃ k, laws_FnShelves.f k l0 = some true
  by_cases hbig : (l0.length : Int) > 1048576
  · refine ⟨0, ?_⟩
    unfold laws_FnShelves.f
    rw [if_pos hbig]
  obtain ⟨wd, l, HM, D⟩ := make_strip (b := l0) (by omega)
  have hw := D.wd_ok
  have hl := D.len
  have hf : impl_PiecesFit.f wd l = some true := fits_true (by omega) (by omega) (fun p hp => by have := D.ok p hp; omega)
  have hps : ∀ p : Int, 0 ≤ p → p < (l.length : Int) → (1 ≤ ht l p ∧ ht l p ≤ 100) ∧ (1 ≤ wdt l p ∧ wdt l p ≤ wd) := fun p h0 h1 => by
    have := sd_each D p h0 h1
    omega
  have A := laid true (show 1 ≤ wd by omega) hps
  have B := laid false (show 1 ≤ wd by omega) hps
  have hfn := first_next hps
  have hnh := next_high (show 1 ≤ wd by omega) hps
  have EA : Ev (fun k => impl_NextShelf.f k wd l) (layF true wd l (orderGo l l.length 0 []) (List.replicate l.length ⟨0, 0⟩) [] 0) := ⟨3001, fun k hk => (lay_impl next.ff true (fun n hn => ⟨(n : Int) - 1, by unfold next.ff; rw [w64 (by omega) (by omega)], by simp only [startAt, if_true]; unfold mx; split <;> omega⟩) wd l hf k (by omega)).1⟩
  have EB : Ev (fun k => impl_FirstShelf.f k wd l) (layF false wd l (orderGo l l.length 0 []) (List.replicate l.length ⟨0, 0⟩) [] 0) := ⟨3001, fun k hk => (lay_impl first.ff false (fun n hn => ⟨0, rfl, by simp [startAt, mx]⟩) wd l hf k (by omega)).1⟩
  have EO : Ev (fun k => impl_ByHeight.f k l) (orderGo l l.length 0 []) := ⟨3001, fun k hk => (lay_impl first.ff false (fun n hn => ⟨0, rfl, by simp [startAt, mx]⟩) wd l hf k (by omega)).2⟩
  obtain ⟨low, ES, s0, s1, s2, s3⟩ := strip_ev D hf
  obtain ⟨⟨a, x⟩, ha⟩ : ∃ r, layF true wd l (orderGo l l.length 0 []) (List.replicate l.length ⟨0, 0⟩) [] 0 = r := ⟨_, rfl⟩
  obtain ⟨⟨b, y⟩, hb⟩ : ∃ r, layF false wd l (orderGo l l.length 0 []) (List.replicate l.length ⟨0, 0⟩) [] 0 = r := ⟨_, rfl⟩
  rw [ha] at A EA hfn hnh
  rw [hb] at B EB hfn
  have hAu : 0 ≤ x ∧ x ≤ 100 * (l.length : Int) := A.up
  have hBu : 0 ≤ y ∧ y ≤ 100 * (l.length : Int) := B.up
  have hBa : areaP l ≤ wd * y := B.area
  have hlow : low ≤ y := s3 y hBu.1 hBa (fun p hp => by
    obtain ⟨i, hi, rfl⟩ := List.mem_iff_getElem.mp hp
    have pB : (0 ≤ (rd_T44 b (i : Int)).f0 ∧ 0 ≤ (rd_T44 b (i : Int)).f1) ∧ (rd_T44 b (i : Int)).f0 + wdt l (i : Int) ≤ wd ∧ (rd_T44 b (i : Int)).f1 + ht l (i : Int) ≤ y := B.at_ (i : Int) (by omega) (by omega)
    rw [(at_w l i hi).1, (at_w l i hi).2] at pB
    omega)
  have HL := law_l0 D a x b y low A B hf hlow hfn (fun high h0 hh => hnh high h0 (fun i h0' h1 => by
    obtain ⟨n, rfl⟩ := Int.eq_ofNat_of_zero_le h0'
    rw [(at_w l n (by omega)).2]
    exact hh _ (List.getElem_mem _))) ⟨s0, s1, s2⟩ l.length 0 0 (by omega) (by omega) (by omega) (by simp) (fun z hz _ => hz)
  have HF : Ev (fun k => laws_FnShelves.f k l0) true := by
    unfold laws_FnShelves.f
    simp only [hbig, if_false]
    exact Ev.bind HM (Ev.bind EA (Ev.bind EB (Ev.bind EO (Ev.bind ES HL))))
  obtain ⟨K, hK⟩ := HF
  exact ⟨K, hK K (Nat.le_refl K)⟩

end Go.Proofs.Ytadloeklhjoohaa.Pure
