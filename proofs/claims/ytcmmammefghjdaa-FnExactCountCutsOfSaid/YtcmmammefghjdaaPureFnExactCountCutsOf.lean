/- CountCutsOf: both texts count the letters v and h of a plan of at most 2000 bytes. -/
import Derived.Test.YtcmmammefghjdaaXFnExactCountCutsOfx1
namespace Go.Proofs.Ytcmmammefghjdaa.Pure
open Go.RowKit Go.Proofs.Ytcmmammefghjdaa.XFnExactCountCutsOf Go.Proofs.YtcmmammefghjdaaW.PrintWords Go.Proofs.YtcmmammefghjdaaW.PrintLast
set_option linter.unusedVariables false
set_option linter.unusedSimpArgs false
theorem wf64 {x : Int} (h : (Lit.int .i64 x).wf = true) : -9223372036854775808 ≤ x ∧ x ≤ 9223372036854775807 := by
  simp only [Lit.wf, IntKind.min, IntKind.max, IntKind.signed, IntKind.bits, Bool.and_eq_true, decide_eq_true_eq, if_true] at h
  omega
theorem w64 {x : Int} (h0 : -9223372036854775808 ≤ x) (h1 : x ≤ 9223372036854775807) : wrap64 x = x := by
  unfold wrap64
  omega
theorem succ_of {d k : Nat} (h : d < k) : ∃ m, k = m + 1 := ⟨k - 1, by omega⟩
theorem rd_nat (l : List Int) (i : Nat) : rd l (i : Int) = l.getD i 0 := by simp [rd]
theorem rd_get (l : List Int) (i : Nat) (h : i < l.length) : rd l (i : Int) = l[i] := by simp [rd, List.getD_eq_getElem?_getD, h]
theorem w1 {i : Nat} (h : i ≤ 140737488355328) : wrap64 ((i : Int) + 1) = ((i + 1 : Nat) : Int) := by
  unfold wrap64
  omega
theorem lt_t {i n : Nat} (h : i < n) : ((i : Int) < (n : Int)) = True := eq_true (by omega)
theorem lt_f {i n : Nat} (h : n ≤ i) : ((i : Int) < (n : Int)) = False := eq_false (by omega)
theorem nn_t (i : Nat) : (0 ≤ (i : Int)) = True := eq_true (by omega)
theorem w64n (n : Nat) (h : n ≤ 9223372036854775807) : wrap64 (n : Int) = (n : Int) := w64 (by omega) (by omega)
theorem w64sub (a b c : Nat) (ha : a ≤ 9223372036854775807) (h : a = b + c) : wrap64 ((a : Int) - (b : Int)) = (c : Int) := by
  rw [w64 (by omega) (by omega)]
  omega

theorem bt_nat (s : ByteArray) (i : Nat) (h : i < s.data.toList.length) : bt s (i : Int) = ((s.data.toList[i]).toNat : Int) := by
  have h' : i < s.size := h
  have h2 : ((i : Nat) : Int).toNat < s.size := by omega
  rw [← bt_at s i h2]
  simp [ByteArray.getElem_eq_getElem_data]
theorem bt_is (s : ByteArray) (i : Nat) (h : i < s.data.toList.length) (c : UInt8) (m : Int) (hm : (c.toNat : Int) = m) : (bt s (i : Int) = m) = (s.data.toList[i] = c) := by
  rw [bt_nat s i h, ← hm]
  apply propext
  constructor
  · intro e
    exact UInt8.toNat_inj.mp (by omega)
  · intro e
    rw [e]

theorem cuts_l (s : ByteArray) (hs : s.size ≤ 2000) (d : Nat) : ∀ (k i n : Nat), s.size - i = d → i ≤ s.size → n ≤ i → d < k → spec_CountCutsOf.l0 k s (n : Int) (i : Int) = some (((n + ((s.data.toList.drop i).count 118 + (s.data.toList.drop i).count 104) : Nat) : Int)) := by
  have hl : s.data.toList.length = s.size := rfl
  induction d with
  | zero =>
    intro k i n hd hi hn hk
    obtain ⟨k, rfl⟩ := succ_of hk
    simp only [spec_CountCutsOf.l0, lt_f (show s.size ≤ i by omega), if_false]
    rw [List.drop_of_length_le (by omega)]
    simp
  | succ d ih =>
    intro k i n hd hi hn hk
    obtain ⟨k, rfl⟩ := succ_of hk
    have hlt : i < s.data.toList.length := by omega
    have hlt' : i < s.size := by omega
    rw [List.drop_eq_getElem_cons hlt, List.count_cons, List.count_cons]
    simp only [spec_CountCutsOf.l0, lt_t hlt', nn_t, if_true, bt_is s i hlt 118 118 rfl, bt_is s i hlt 104 104 rfl, w1 (show i ≤ 140737488355328 by omega), w1 (show n ≤ 140737488355328 by omega)]
    generalize s.data.toList[i] = c
    by_cases h1 : c = 118
    · subst h1
      rw [if_pos rfl, ih k (i + 1) (n + 1) (by omega) (by omega) (by omega) (by omega)]
      simp
      omega
    · by_cases h2 : c = 104
      · subst h2
        rw [if_neg (by decide), if_pos rfl, ih k (i + 1) (n + 1) (by omega) (by omega) (by omega) (by omega)]
        simp
        omega
      · rw [if_neg h1, if_neg h2, ih k (i + 1) n (by omega) (by omega) (by omega) (by omega)]
        simp [h1, h2]
theorem count_v (s : ByteArray) : strings_Count.f s ⟨#[118]⟩ = some ((s.data.toList.count 118 : Nat) : Int) := rfl
theorem count_h (s : ByteArray) : strings_Count.f s ⟨#[104]⟩ = some ((s.data.toList.count 104 : Nat) : Int) := rfl
theorem impl_cuts (s : ByteArray) (hs : s.size ≤ 2000) : impl_CountCutsOf.f s = some (((s.data.toList.count 118 + s.data.toList.count 104 : Nat)) : Int) := by
  have h4 : (s.data.toList.count 118) ≤ s.data.toList.length := List.count_le_length
  have h5 : (s.data.toList.count 104) ≤ s.data.toList.length := List.count_le_length
  have h6 : s.data.toList.length = s.size := rfl
  unfold impl_CountCutsOf.f
  rw [if_neg (by omega), count_v, count_h]
  generalize s.data.toList.count 118 = a at h4
  generalize s.data.toList.count 104 = b at h5
  show some (wrap64 ((a : Int) + (b : Int))) = _
  rw [w64 (by omega) (by omega)]
  simp
theorem cuts_law (s : ByteArray) (K : Nat) (hK : 2000 < K) : laws_FnExactCountCutsOf.f K s = some true := by
  unfold laws_FnExactCountCutsOf.f
  by_cases h : (s.size : Int) > 1048576
  · rw [if_pos h]
  · rw [if_neg h]
    by_cases h2 : (s.size : Int) > 2000
    · unfold spec_CountCutsOf.f impl_CountCutsOf.f
      rw [if_pos h2, if_pos h2]
      simp
    · rw [impl_cuts s (by omega)]
      unfold spec_CountCutsOf.f
      rw [if_neg h2]
      have h3 := cuts_l s (by omega) s.size K 0 0 (by omega) (by omega) (by omega) (by omega)
      rw [Int.ofNat_zero, List.drop_zero] at h3
      rw [h3]
      simp
theorem FnExactCountCutsOf : laws_FnExactCountCutsOf.Pure := fun s _ => ⟨2001, cuts_law s 2001 (by omega)⟩

end Go.Proofs.Ytcmmammefghjdaa.Pure
