/- ColorsOn: the points on a segment lie in the square; their colors, sorted and made compact, are those of 0, 1, 2 that occur. -/
import Derived.Test.YtpnngdljfnhnfaaXFnExactColorsOnx7
namespace Go.Proofs.Ytpnngdljfnhnfaa.Pure
open Go.RowKit Go.Proofs.Ytpnngdljfnhnfaa.XFnExactColorsOn Go.Proofs.YtpnngdljfnhnfaaW.PrintWords Go.Proofs.YtpnngdljfnhnfaaW.PrintLast
set_option linter.unusedVariables false
set_option linter.unusedSimpArgs false
theorem wf64 {x : Int} (h : (Lit.int .i64 x).wf = true) : -9223372036854775808 ≤ x ∧ x ≤ 9223372036854775807 := by
  simp only [Lit.wf, IntKind.min, IntKind.max, IntKind.signed, IntKind.bits, Bool.and_eq_true, decide_eq_true_eq, if_true] at h
  omega
theorem w64 {x : Int} (h0 : -9223372036854775808 ≤ x) (h1 : x ≤ 9223372036854775807) : wrap64 x = x := by
  unfold wrap64
  omega
theorem succ_of {d k : Nat} (h : d < k) : ∃ m, k = m + 1 := ⟨k - 1, by omega⟩
theorem rd_nat (l : List Int) (i : Nat) : rd l (i : Int) = l.getD i 0 := by simp [rd]
theorem rd_get (l : List Int) (i : Nat) (h : i < l.length) : rd l (i : Int) = l[i] := by simp [rd, List.getD_eq_getElem?_getD, h]
theorem w1 {i : Nat} (h : i ≤ 140737488355328) : wrap64 ((i : Int) + 1) = ((i + 1 : Nat) : Int) := by
  unfold wrap64
  omega
theorem lt_t {i n : Nat} (h : i < n) : ((i : Int) < (n : Int)) = True := eq_true (by omega)
theorem lt_f {i n : Nat} (h : n ≤ i) : ((i : Int) < (n : Int)) = False := eq_false (by omega)
theorem nn_t (i : Nat) : (0 ≤ (i : Int)) = True := eq_true (by omega)
theorem w64n (n : Nat) (h : n ≤ 9223372036854775807) : wrap64 (n : Int) = (n : Int) := w64 (by omega) (by omega)
theorem w64sub (a b c : Nat) (ha : a ≤ 9223372036854775807) (h : a = b + c) : wrap64 ((a : Int) - (b : Int)) = (c : Int) := by
  rw [w64 (by omega) (by omega)]
  omega

theorem eqIntS_l (l m : List Int) (hl : l.length ≤ 35184372088832) (he : l.length = m.length) (d : Nat) : ∀ (k : Nat) (i : Nat), l.length - i = d → i ≤ l.length → d < k → laws_eqIntS.l0 k l m (i : Int) = some (decide (l.drop i = m.drop i)) := by
  induction d with
  | zero =>
    intro k i hd hi hk
    obtain ⟨k, rfl⟩ := succ_of hk
    simp only [laws_eqIntS.l0]
    rw [if_neg (by omega), List.drop_of_length_le (by omega), List.drop_of_length_le (by omega)]
    simp
  | succ d ih =>
    intro k i hd hi hk
    obtain ⟨k, rfl⟩ := succ_of hk
    simp only [laws_eqIntS.l0]
    rw [if_pos (by omega), if_pos (by omega), if_pos (by omega), w1 (by omega), rd_get l i (by omega), rd_get m i (by omega), ih k (i + 1) (by omega) (by omega) (by omega)]
    have h1 := List.drop_eq_getElem_cons (show i < l.length by omega)
    have h2 := List.drop_eq_getElem_cons (show i < m.length by omega)
    by_cases e : l[i]'(by omega) = m[i]'(by omega)
    · rw [if_pos e, h1, h2]
      simp only [List.cons.injEq, e, true_and]
    · rw [if_neg e, h1, h2]
      simp only [List.cons.injEq, e, false_and, decide_false]
theorem eqIntS (l m : List Int) (hl : l.length ≤ 35184372088832) (k : Nat) (hk : l.length < k) : laws_eqIntS.f k l m = some (decide (l = m)) := by
  unfold laws_eqIntS.f
  by_cases e : l.length = m.length
  · rw [if_pos (by omega)]
    have := eqIntS_l l m hl e l.length k 0 (by omega) (by omega) hk
    simpa using this
  · rw [if_neg (by omega)]
    have : l ≠ m := fun h => e (by rw [h])
    simp [this]

def marked (a : Int) (n : Nat) : List Int := (List.range n).map fun j : Nat => a + (j : Int)
theorem marked_length (a : Int) (n : Nat) : (marked a n).length = n := by simp [marked]
theorem marked_get (a : Int) (n i : Nat) (h : i < n) : rd (marked a n) (i : Int) = a + (i : Int) := by
  rw [rd_get _ _ (by rw [marked_length]; exact h)]
  simp [marked]
theorem mark_l (n : Nat) (a : Int) (h0 : 0 ≤ a) (h1 : a + (n : Int) ≤ 4611686018427387904) (hn : n ≤ 140737488355328) (d : Nat) : ∀ (k i : Nat) (l : List Int), n - i = d → i ≤ n → l.length = n → l.take i = marked a i → d < k → laws_markIntS.l0 k l (a + (i : Int)) (i : Int) = some (a + (n : Int), marked a n) := by
  induction d with
  | zero =>
    intro k i l hd hi hl ht hk
    obtain ⟨k, rfl⟩ := succ_of hk
    have : i = n := by omega
    subst this
    subst hl
    simp only [laws_markIntS.l0, lt_f (Nat.le_refl l.length), if_false]
    rw [List.take_length] at ht
    rw [← ht]
  | succ d ih =>
    intro k i l hd hi hl ht hk
    obtain ⟨k, rfl⟩ := succ_of hk
    have hlt : i < l.length := by omega
    simp only [laws_markIntS.l0, lt_t hlt, nn_t, if_true, w1 (show i ≤ 140737488355328 by omega)]
    rw [w64 (by omega) (by omega), show a + (i : Int) + 1 = a + ((i + 1 : Nat) : Int) by omega]
    refine ih k (i + 1) _ (by omega) (by omega) (by simp [hl]) ?_ (by omega)
    rw [Int.toNat_natCast, List.take_add_one, List.take_set_of_le (Nat.le_refl _), ht]
    simp [hlt, marked, List.range_succ]
theorem mark_f (l : List Int) (a : Int) (h0 : 0 ≤ a) (h1 : a + (l.length : Int) ≤ 4611686018427387904) (hn : l.length ≤ 140737488355328) (k : Nat) (hk : l.length < k) : laws_markIntS.f k l a = some (a + (l.length : Int), marked a l.length) := by
  have := mark_l l.length a h0 h1 hn l.length k 0 l (by omega) (by omega) rfl (by simp [marked]) hk
  rw [Int.ofNat_zero, Int.add_zero] at this
  exact this
theorem held_l (n : Nat) (a : Int) (h0 : 0 ≤ a) (h1 : a + (n : Int) ≤ 4611686018427387904) (hn : n ≤ 140737488355328) (d : Nat) : ∀ (k i : Nat), n - i = d → i ≤ n → d < k → laws_heldIntS.l0 k (marked a n) (a + (i : Int)) (i : Int) = some (a + (n : Int)) := by
  induction d with
  | zero =>
    intro k i hd hi hk
    obtain ⟨k, rfl⟩ := succ_of hk
    have : i = n := by omega
    subst this
    simp only [laws_heldIntS.l0, marked_length, lt_f (Nat.le_refl i), if_false]
  | succ d ih =>
    intro k i hd hi hk
    obtain ⟨k, rfl⟩ := succ_of hk
    have hlt : i < n := by omega
    simp only [laws_heldIntS.l0, marked_length, lt_t hlt, nn_t, if_true, w1 (show i ≤ 140737488355328 by omega), marked_get a n i hlt]
    rw [w64 (by omega) (by omega), show a + (i : Int) + 1 = a + ((i + 1 : Nat) : Int) by omega]
    exact ih k (i + 1) (by omega) (by omega) (by omega)
theorem held_f (n : Nat) (a : Int) (h0 : 0 ≤ a) (h1 : a + (n : Int) ≤ 4611686018427387904) (hn : n ≤ 140737488355328) (k : Nat) (hk : n < k) : laws_heldIntS.f k (marked a n) a = some (a + (n : Int)) := by
  have := held_l n a h0 h1 hn n k 0 (by omega) (by omega) hk
  rw [Int.ofNat_zero, Int.add_zero] at this
  exact this

theorem half_of {x : Int} (h : Int.tmod x 2 = 0) : 2 * Int.tdiv x 2 = x := by
  have := Int.mul_tdiv_add_tmod x 2
  omega
theorem halv_l (k : Nat) : ∀ (x n : Int), x ≠ 0 → x.natAbs < 2 ^ k → -9223372036854775808 ≤ x → x ≤ 9223372036854775807 → ∃ r, spec_HalvingsOf.l0 k x n = some r ∧ impl_HalvingsOf.l0 k x n = some r := by
  induction k with
  | zero => intro x n h0 h1; simp at h1; omega
  | succ k ih =>
    intro x n h0 h1 h2 h3
    simp only [spec_HalvingsOf.l0, impl_HalvingsOf.l0]
    by_cases e : Int.tmod x 2 = 0
    · have hx := half_of e
      rw [if_pos e, if_pos e]
      have hw : wrap64 (Int.tdiv x 2) = Int.tdiv x 2 := by unfold wrap64; omega
      rw [hw]
      refine ih _ _ (by omega) ?_ (by omega) (by omega)
      rw [Nat.pow_succ] at h1
      omega
    · rw [if_neg e, if_neg e]
      exact ⟨n, rfl, rfl⟩
theorem halv_f (x : Int) (h2 : -9223372036854775808 ≤ x) (h3 : x ≤ 9223372036854775807) (k : Nat) (hk : 64 ≤ k) : ∃ r, spec_HalvingsOf.f k x = some r ∧ impl_HalvingsOf.f k x = some r := by
  unfold spec_HalvingsOf.f impl_HalvingsOf.f
  by_cases h0 : x = 0
  · rw [if_pos h0, if_pos h0]; exact ⟨100, rfl, rfl⟩
  · rw [if_neg h0, if_neg h0]
    refine halv_l k x 0 h0 ?_ h2 h3
    have : 2 ^ 64 ≤ 2 ^ k := Nat.pow_le_pow_right (by omega) hk
    have h64 : x.natAbs < 2 ^ 64 := by omega
    exact Nat.lt_of_lt_of_le h64 this

theorem within_f (a b c : Int) : impl_within.f a b c = some (decide (b ≤ a ∧ a ≤ c)) := by
  unfold impl_within.f
  by_cases h : a ≥ b
  · rw [if_pos h]; simp [show b ≤ a from h]
  · rw [if_neg h]; simp [show ¬ b ≤ a from h]
theorem l01In_f (a b c : Int) : spec_l01In.f a b c = some (decide (b ≤ a ∧ a ≤ c)) := by
  unfold spec_l01In.f
  by_cases h : a ≥ b
  · rw [if_pos h]; simp [show b ≤ a from h]
  · rw [if_neg h]; simp [show ¬ b ≤ a from h]

theorem color_f (d x y : Int) (hd : -9223372036854775808 ≤ d ∧ d ≤ 9223372036854775807) (hx : -9223372036854775808 ≤ x ∧ x ≤ 9223372036854775807) (hy : -9223372036854775808 ≤ y ∧ y ≤ 9223372036854775807) :
    ∃ r, spec_ColorOf.f 66 d x y = some r ∧ impl_ColorOf.f 66 d x y = some r ∧ (-1 ≤ r ∧ r ≤ 2) := by
  unfold spec_ColorOf.f impl_ColorOf.f
  simp only [l01In_f, within_f, Option.bind_some, impl_PointOk.f]
  by_cases h1 : 1 ≤ d ∧ d ≤ 40
  · by_cases h2 : (0 ≤ x ∧ x ≤ d) ∧ (0 ≤ y ∧ y ≤ d)
    · obtain ⟨u, u1, u2⟩ := halv_f x hx.1 hx.2 66 (by omega)
      obtain ⟨v, v1, v2⟩ := halv_f y hy.1 hy.2 66 (by omega)
      obtain ⟨s, s1, s2⟩ := halv_f d hd.1 hd.2 66 (by omega)
      obtain ⟨u', u1', u2'⟩ := halv_f x hx.1 hx.2 65 (by omega)
      obtain ⟨v', v1', v2'⟩ := halv_f y hy.1 hy.2 65 (by omega)
      obtain ⟨s', s1', s2'⟩ := halv_f d hd.1 hd.2 65 (by omega)
      obtain rfl : u' = u := Option.some.inj (((impl_HalvingsOf.mono x 65 _ u2').symm.trans u2))
      obtain rfl : v' = v := Option.some.inj (((impl_HalvingsOf.mono y 65 _ v2').symm.trans v2))
      obtain rfl : s' = s := Option.some.inj (((impl_HalvingsOf.mono d 65 _ s2').symm.trans s2))
      simp only [h1, h2, show x ≤ 40 by omega, show y ≤ 40 by omega, and_true, decide_true, if_true, spec_l14Color.f, u1, v1, s1, Option.bind_some, show ¬ (x > d) by omega, if_false, show ¬ (y > d) by omega, decide_false, impl_ColorOf.j0, u2', v2', s2', spec_l14Color.j0, impl_ColorOf.j1, Bool.false_eq_true]
      by_cases g1 : u' > s'
      · by_cases g2 : v' > s'
        · exact ⟨0, by simp [g1, g2], by simp [g1, g2], by omega⟩
        · by_cases g3 : u' ≤ v'
          · exact ⟨1, by simp [g1, g2, g3], by simp [g1, g2, g3], by omega⟩
          · exact ⟨2, by simp [g1, g2, g3], by simp [g1, g2, g3], by omega⟩
      · by_cases g3 : u' ≤ v'
        · exact ⟨1, by simp [g1, g3], by simp [g1, g3], by omega⟩
        · exact ⟨2, by simp [g1, g3], by simp [g1, g3], by omega⟩
    · refine ⟨-1, ?_, ?_, by omega⟩
      · by_cases h3 : 0 ≤ x ∧ x ≤ d
        · have h4 : ¬ (0 ≤ y ∧ y ≤ d) := fun h => h2 ⟨h3, h⟩
          simp [h1, h3, h4]
        · simp [h1, h3]
      · by_cases h3 : 0 ≤ x ∧ x ≤ 40
        · by_cases h4 : 0 ≤ y ∧ y ≤ 40
          · by_cases h5 : x > d
            · simp [h1, h3, h4, h5, impl_ColorOf.j0]
            · simp [h1, h3, h4, h5, impl_ColorOf.j0, show y > d by omega]
          · simp [h1, h3, h4, impl_ColorOf.j0]
        · simp [h1, h3, impl_ColorOf.j0]
  · refine ⟨-1, ?_, ?_, by omega⟩
    · simp [h1]
    · simp [h1, impl_ColorOf.j0]

/-- Two rows in strictly ascending order with the same members are one. -/
theorem asc_ext : ∀ (a b : List Int), a.Pairwise (· < ·) → b.Pairwise (· < ·) → (∀ z, z ∈ a ↔ z ∈ b) → a = b
  | [], [], _, _, _ => rfl
  | [], y :: b, _, _, h => absurd ((h y).mpr (by simp)) (by simp)
  | x :: a, [], _, _, h => absurd ((h x).mp (by simp)) (by simp)
  | x :: a, y :: b, ha, hb, h => by
    rw [List.pairwise_cons] at ha hb
    have e : x = y := by
      rcases List.mem_cons.mp ((h x).mp (by simp)) with e | e
      · exact e
      · rcases List.mem_cons.mp ((h y).mpr (by simp)) with e2 | e2
        · exact e2.symm
        · have h1 := hb.1 x e
          have h2 := ha.1 y e2
          omega
    subst e
    rw [asc_ext a b ha.2 hb.2 fun z => ?_]
    constructor
    · intro hz
      rcases List.mem_cons.mp ((h z).mp (List.mem_cons_of_mem _ hz)) with e | e
      · subst e; have := ha.1 z hz; omega
      · exact e
    · intro hz
      rcases List.mem_cons.mp ((h z).mpr (List.mem_cons_of_mem _ hz)) with e | e
      · subst e; have := hb.1 z hz; omega
      · exact e
theorem compactUpTo_facts (d : Array Int) (hs : ∀ i j, i ≤ j → j < d.size → d[i]! ≤ d[j]!) (m : Nat) : m ≤ d.size → (∀ z, z ∈ Go.Lib.compactUpTo d m ↔ ∃ j, j < m ∧ d[j]! = z) ∧ (Go.Lib.compactUpTo d m).Pairwise (· < ·) := by
  induction m with
  | zero => intro _; simp [Go.Lib.compactUpTo]
  | succ m ih =>
    intro hm
    obtain ⟨h1, h2⟩ := ih (by omega)
    rw [Go.Lib.compactUpTo_succ]
    by_cases hk : Go.Lib.keeps d m = true
    · rw [if_pos hk]
      have hlt : ∀ z ∈ Go.Lib.compactUpTo d m, z < d[m]! := by
        intro z hz
        obtain ⟨j, hj, rfl⟩ := (h1 z).mp hz
        have hk' := hk
        simp only [Go.Lib.keeps, decide_eq_true_eq] at hk'
        have e1 := hs j (m - 1) (by omega) (by omega)
        have e2 := hs (m - 1) m (by omega) (by omega)
        rcases hk' with e | e
        · omega
        · have : d[m - 1]! ≠ d[m]! := fun e3 => e e3.symm
          omega
      constructor
      · intro z
        rw [List.mem_append, h1, List.mem_singleton]
        constructor
        · rintro (⟨j, hj, rfl⟩ | rfl)
          · exact ⟨j, by omega, rfl⟩
          · exact ⟨m, by omega, rfl⟩
        · rintro ⟨j, hj, rfl⟩
          by_cases e : j = m
          · subst e; exact .inr rfl
          · exact .inl ⟨j, by omega, rfl⟩
      · rw [List.pairwise_append]
        refine ⟨h2, by simp, fun a ha b hb => ?_⟩
        rw [List.mem_singleton] at hb
        subst hb
        exact hlt a ha
    · rw [if_neg hk, List.append_nil]
      refine ⟨fun z => ?_, h2⟩
      rw [h1]
      constructor
      · rintro ⟨j, hj, rfl⟩
        exact ⟨j, by omega, rfl⟩
      · rintro ⟨j, hj, rfl⟩
        by_cases e : j = m
        · subst e
          have hk' : ¬ (j = 0 ∨ d[j]! ≠ d[j - 1]!) := by simpa [Go.Lib.keeps] using hk
          have e1 : d[j]! = d[j - 1]! := Decidable.byContradiction fun e => hk' (.inr e)
          have e2 : j ≠ 0 := fun e => hk' (.inl e)
          exact ⟨j - 1, by omega, e1.symm⟩
        · exact ⟨j, by omega, rfl⟩
theorem sorted_compact (l : List Int) : (∀ z, z ∈ Go.Lib.compact (l.mergeSort fun x y => decide (x ≤ y)) ↔ z ∈ l) ∧ (Go.Lib.compact (l.mergeSort fun x y => decide (x ≤ y))).Pairwise (· < ·) := by
  have hp : (l.mergeSort fun x y => decide (x ≤ y)).Pairwise fun a b => decide (a ≤ b) = true := List.pairwise_mergeSort (fun a b c h1 h2 => by simp only [decide_eq_true_eq] at *; omega) (fun a b => by simp only [Bool.or_eq_true, decide_eq_true_eq]; omega) l
  have hm : ∀ z, z ∈ (l.mergeSort fun x y => decide (x ≤ y)) ↔ z ∈ l := fun z => List.mem_mergeSort
  generalize (l.mergeSort fun x y => decide (x ≤ y)) = s at hp hm ⊢
  have hs : ∀ i j, i ≤ j → j < s.toArray.size → s.toArray[i]! ≤ s.toArray[j]! := by
    intro i j hij hj
    have hj' : j < s.length := by simpa using hj
    rw [getElem!_pos s.toArray i (by simp; omega), getElem!_pos s.toArray j hj]
    by_cases e : i = j
    · subst e; exact Int.le_refl _
    · have := (List.pairwise_iff_getElem.mp hp) i j (by omega) hj' (by omega)
      simpa using this
  obtain ⟨h1, h2⟩ := compactUpTo_facts s.toArray hs s.length (by simp)
  refine ⟨fun z => ?_, h2⟩
  show z ∈ Go.Lib.compactUpTo s.toArray s.length ↔ _
  rw [h1, ← hm]
  constructor
  · rintro ⟨j, hj, rfl⟩
    rw [getElem!_pos s.toArray j (by simpa using hj)]
    simp
  · intro hz
    obtain ⟨j, hj, e⟩ := List.mem_iff_getElem.mp hz
    refine ⟨j, hj, ?_⟩
    rw [getElem!_pos s.toArray j (by simpa using hj)]
    simpa using e

theorem ev_eqS (L : List Int) (h : L.length ≤ 1000000) : Ev (fun k => laws_eqIntS.f k L L) true :=
  ⟨L.length + 1, fun k hk => by show laws_eqIntS.f k L L = some true; rw [eqIntS L L (by omega) k (by omega)]; simp⟩
theorem ev_mark (L : List Int) (h : L.length ≤ 1000000) : Ev (fun k => laws_markIntS.f k L 1) (1 + (L.length : Int), marked 1 L.length) :=
  ⟨L.length + 1, fun k hk => mark_f L 1 (by omega) (by omega) (by omega) k (by omega)⟩
theorem ev_held (n : Nat) (h : n ≤ 1000000) : Ev (fun k => laws_heldIntS.f k (marked 1 n) 1) (1 + (n : Int)) :=
  ⟨n + 1, fun k hk => held_f n 1 (by omega) (by omega) (by omega) k (by omega)⟩

theorem rdC_get (l : List S46) (i : Nat) (h : i < l.length) : rd_T46 l (i : Int) = l[i] := by simp [rd_T46, List.getD_eq_getElem?_getD, h]
theorem colV (d x y : Int) (hd : 1 ≤ d ∧ d ≤ 40) (hx : 0 ≤ x ∧ x ≤ d) (hy : 0 ≤ y ∧ y ≤ d) : ∃ r, impl_ColorOf.f 66 d x y = some r ∧ (0 ≤ r ∧ r ≤ 2) ∧ Ev (fun k => impl_ColorOf.f k d x y) r ∧ Ev (fun k => spec_ColorOf.f k d x y) r ∧ Ev (fun k => spec_l14Color.f k d x y) r := by
  obtain ⟨r, h1, h2, h3⟩ := color_f d x y (by omega) (by omega) (by omega)
  have h4 : spec_l14Color.f 66 d x y = some r := by
    unfold spec_ColorOf.f at h1
    simp only [l01In_f, Option.bind_some, hd, hx, hy, and_self, decide_true, if_true] at h1
    cases e : spec_l14Color.f 66 d x y with
    | none => rw [e] at h1; exact absurd h1 (by simp)
    | some v => rw [e] at h1; exact h1
  have h5 : 0 ≤ r := by
    have h6 := h4
    unfold spec_l14Color.f at h6
    obtain ⟨a, _, h6⟩ := Option.bind_eq_some_iff.mp h6
    obtain ⟨b, _, h6⟩ := Option.bind_eq_some_iff.mp h6
    obtain ⟨c, _, h6⟩ := Option.bind_eq_some_iff.mp h6
    have hj : ∀ (u v : Int) (q : Bool), spec_l14Color.j0 66 u v q = some r → 0 ≤ r := by
      intro u v q h
      simp only [spec_l14Color.j0] at h
      split at h
      · have := Option.some.inj h; omega
      · split at h <;> (have := Option.some.inj h; omega)
    split at h6
    · exact hj _ _ _ h6
    · exact hj _ _ _ h6
  exact ⟨r, h2, ⟨h5, h3.2⟩, Ev.of (impl_ColorOf.mono d x y) h2, Ev.of (spec_ColorOf.mono d x y) h1, Ev.of (spec_l14Color.mono d x y) h4⟩
def okC (d x y : Int) : Prop := (1 ≤ d ∧ d ≤ 40) ∧ (0 ≤ x ∧ x ≤ d) ∧ (0 ≤ y ∧ y ≤ d)
theorem colI (d x y : Int) (h : ¬ okC d x y) : Ev (fun k => impl_ColorOf.f k d x y) (-1) ∧ Ev (fun k => spec_ColorOf.f k d x y) (-1) := by
  unfold okC at h
  constructor
  · refine Ev.step (f := fun _ => some (-1)) (fun k => ?_) (Ev.now _)
    unfold impl_ColorOf.f impl_PointOk.f
    simp only [within_f, Option.bind_some]
    by_cases h1 : 1 ≤ d ∧ d ≤ 40
    · by_cases h2 : 0 ≤ x ∧ x ≤ 40
      · by_cases h3 : 0 ≤ y ∧ y ≤ 40
        · by_cases h4 : x > d
          · simp [h1, h2, h3, h4, impl_ColorOf.j0]
          · have h5 : y > d := by omega
            simp [h1, h2, h3, h4, h5, impl_ColorOf.j0]
        · simp [h1, h2, h3, impl_ColorOf.j0]
      · simp [h1, h2, impl_ColorOf.j0]
    · simp [h1, impl_ColorOf.j0]
  · refine Ev.congr (fun k => ?_) (Ev.now _)
    unfold spec_ColorOf.f
    simp only [l01In_f, Option.bind_some]
    by_cases h1 : 1 ≤ d ∧ d ≤ 40
    · by_cases h2 : 0 ≤ x ∧ x ≤ d
      · have h3 : ¬ (0 ≤ y ∧ y ≤ d) := fun h3 => h ⟨h1, h2, h3⟩
        simp [h1, h2, h3]
      · simp [h1, h2]
    · simp [h1]
theorem gcd_spec (y : Nat) : ∀ x : Nat, Ev (fun k => spec_l02Gcd.l0 k (x : Int) (y : Int)) ((Nat.gcd x y : Nat) : Int) := by
  induction y using Nat.strongRecOn with
  | _ y ih =>
    intro x
    by_cases h0 : y = 0
    · subst h0
      refine Ev.step (f := fun _ => some (x : Int)) (fun k => ?_) (by rw [Nat.gcd_zero_right]; exact Ev.now _)
      simp [spec_l02Gcd.l0]
    · have hp : ((y : Int) > 0) = True := eq_true (by omega)
      have hz : ((y : Int) = 0) = False := eq_false (by omega)
      have e : Nat.gcd x y = Nat.gcd y (x % y) := by rw [Nat.gcd_comm x y, Nat.gcd_rec y x, Nat.gcd_comm]
      rw [e]
      refine Ev.step (fun k => ?_) (ih (x % y) (Nat.mod_lt _ (by omega)) y)
      simp only [spec_l02Gcd.l0, hp, hz, if_true, if_false]
      rfl
theorem mx_abs (x : Int) (h : -1000 ≤ x ∧ x ≤ 1000) : mx x (wrap64 (-x)) = ((x.natAbs : Nat) : Int) := by
  rw [w64 (by omega) (by omega)]
  unfold mx
  split <;> omega
theorem gcd_impl (n : Nat) : ∀ x y : Int, y.natAbs = n → (-1000 ≤ x ∧ x ≤ 1000) → (-1000 ≤ y ∧ y ≤ 1000) → Ev (fun k => impl_common.l0 k x y) ((Nat.gcd x.natAbs y.natAbs : Nat) : Int) := by
  induction n using Nat.strongRecOn with
  | _ n ih =>
    intro x y hn hx hy
    by_cases h0 : y = 0
    · subst h0
      refine Ev.step (f := fun _ => some ((x.natAbs : Nat) : Int)) (fun k => ?_) (by simpa using Ev.now _)
      simp [impl_common.l0, mx_abs x hx]
    · have e : Nat.gcd x.natAbs y.natAbs = Nat.gcd y.natAbs (Int.tmod x y).natAbs := by
        rw [Int.natAbs_tmod, Nat.gcd_comm x.natAbs, Nat.gcd_rec y.natAbs, Nat.gcd_comm]
      have hlt : (Int.tmod x y).natAbs < y.natAbs := by rw [Int.natAbs_tmod]; exact Nat.mod_lt _ (by omega)
      rw [e]
      refine Ev.step (fun k => ?_) (ih (Int.tmod x y).natAbs (by omega) y (Int.tmod x y) rfl hy (by omega))
      simp only [impl_common.l0, h0, if_false]
def stepsN (ax ay bx by_ : Int) : Nat := Nat.gcd (bx - ax).natAbs (by_ - ay).natAbs
def onP (ax ay : Int) (q0 q1 : Int) (i : Nat) : S46 := ⟨ax + q0 * (i : Int), ay + q1 * (i : Int)⟩
theorem between (a b q n i : Int) (hq : q * n = b - a) (hi : 0 ≤ i ∧ i ≤ n) (d : Int) (ha : 0 ≤ a ∧ a ≤ d) (hb : 0 ≤ b ∧ b ≤ d) : 0 ≤ a + q * i ∧ a + q * i ≤ d := by
  by_cases h : 0 ≤ q
  · have h1 : q * i ≤ q * n := Int.mul_le_mul_of_nonneg_left hi.2 h
    have h2 : 0 ≤ q * i := Int.mul_nonneg h hi.1
    generalize q * i = u at *
    omega
  · have h1 : (-q) * i ≤ (-q) * n := Int.mul_le_mul_of_nonneg_left hi.2 (by omega)
    have h2 : 0 ≤ (-q) * i := Int.mul_nonneg (by omega) hi.1
    rw [Int.neg_mul, Int.neg_mul] at h1
    rw [Int.neg_mul] at h2
    generalize q * i = u at *
    omega
theorem qb (q n x : Int) (h : q * n = x) (hn : 1 ≤ n) (hx : -40 ≤ x ∧ x ≤ 40) : -40 ≤ q ∧ q ≤ 40 := by
  constructor
  · refine Decidable.byContradiction fun c => ?_
    have h1 : 41 * 1 ≤ (-q) * n := Int.mul_le_mul (by omega) hn (by omega) (by omega)
    rw [Int.neg_mul, h] at h1
    omega
  · refine Decidable.byContradiction fun c => ?_
    have h1 : 41 * 1 ≤ q * n := Int.mul_le_mul (by omega) hn (by omega) (by omega)
    rw [h] at h1
    omega
theorem wr_add (a u : Int) (ha : 0 ≤ a ∧ a ≤ 40) (hu : 0 ≤ a + u ∧ a + u ≤ 40) : wrap64 (a + wrap64 u) = a + u := by
  rw [w64 (x := u) (by omega) (by omega), w64 (by omega) (by omega)]
theorem on_val (d a b q n i : Int) (hd : d ≤ 40) (ha : 0 ≤ a ∧ a ≤ d) (hb : 0 ≤ b ∧ b ≤ d) (h0 : q * n = b - a) (hi : 1 ≤ i ∧ i ≤ n) : wrap64 (a + wrap64 (wrap64 (Int.tdiv (wrap64 (b - a)) n) * i)) = a + q * i := by
  have nz : n ≠ 0 := by omega
  have hx : -40 ≤ b - a ∧ b - a ≤ 40 := by omega
  have ha' : 0 ≤ a ∧ a ≤ 40 := by omega
  have hn : 1 ≤ n := by omega
  have hi' : 0 ≤ i ∧ i ≤ n := by omega
  have hq := qb q n (b - a) h0 hn hx
  have e1 : wrap64 (b - a) = b - a := w64 (by omega) (by omega)
  have e2 : wrap64 q = q := w64 (by omega) (by omega)
  have hbt := between a b q n i h0 hi' d ha hb
  rw [e1, ← h0, Int.mul_tdiv_cancel _ nz, e2]
  exact wr_add a (q * i) ha' ⟨hbt.1, Int.le_trans hbt.2 hd⟩
theorem same_on (k : Nat) : ∀ (n : Int) (acc : List S46) (i a b c d : Int), impl_PointsOn.l0 k n acc i a b c d = spec_PointsOn.l0 k n acc i a b c d := by
  induction k with
  | zero => intros; rfl
  | succ k ih =>
    intro n acc i a b c d
    simp only [impl_PointsOn.l0, spec_PointsOn.l0, ih]
theorem on_l {ax ay bx by_ q0 q1 : Int} {n : Nat} (hn : 1 ≤ n) (hn4 : n ≤ 40) (hv : ∀ i : Nat, 1 ≤ i → i ≤ n → wrap64 (ax + wrap64 (wrap64 (Int.tdiv (wrap64 (bx - ax)) (n : Int)) * (i : Int))) = ax + q0 * (i : Int) ∧ wrap64 (ay + wrap64 (wrap64 (Int.tdiv (wrap64 (by_ - ay)) (n : Int)) * (i : Int))) = ay + q1 * (i : Int)) (t : Nat) : ∀ (i : Nat) (acc : List S46), n + 1 - i = t → 1 ≤ i → i ≤ n + 1 → acc.length ≤ i → Ev (fun k => spec_PointsOn.l0 k (n : Int) acc (i : Int) ax ay bx by_) (acc ++ (List.range' i t).map (onP ax ay q0 q1)) := by
  induction t with
  | zero =>
    intro i acc hi h1i h2i hacc
    refine Ev.step (f := fun _ => some acc) (fun k => ?_) (by simpa using Ev.now acc)
    have hf : ((i : Int) ≤ (n : Int)) = False := eq_false (by omega)
    simp only [spec_PointsOn.l0, hf, if_false]
  | succ t ih =>
    intro i acc hi h1i h2i hacc
    have hin : i ≤ n := by omega
    have hlt : ((i : Int) ≤ (n : Int)) = True := eq_true (by omega)
    have hz : ((n : Int) = 0) = False := eq_false (by omega)
    have hi3 := w1 (show i ≤ 140737488355328 by omega)
    have hal : (acc.length < 8796093022208) = True := eq_true (by omega)
    have H := ih (i + 1) (acc ++ [onP ax ay q0 q1 i]) (by omega) (by omega) (by omega) (by rw [List.length_append, List.length_singleton]; omega)
    rw [List.append_assoc, List.singleton_append] at H
    rw [List.range'_succ, List.map_cons]
    obtain ⟨e0, e1⟩ := hv i h1i hin
    refine Ev.step (fun k => ?_) H
    simp only [spec_PointsOn.l0, hlt, hz, if_true, if_false, hal, hi3, e0, e1]
    rfl
theorem quot (x : Int) (n : Nat) (hd : n ∣ x.natAbs) : ∃ q : Int, q * (n : Int) = x := by
  obtain ⟨c, hc⟩ := hd
  rcases Int.natAbs_eq x with e | e
  · exact ⟨(c : Int), by rw [e, hc, Int.natCast_mul, Int.mul_comm]⟩
  · exact ⟨-(c : Int), by rw [e, hc, Int.natCast_mul, Int.neg_mul, Int.mul_comm]⟩
/-- The points on a segment of the square: the same for both, all in the square, at most 41. -/
theorem points_f (d ax ay bx by_ : Int) (hd : 1 ≤ d ∧ d ≤ 40) (ha : (0 ≤ ax ∧ ax ≤ d) ∧ (0 ≤ ay ∧ ay ≤ d)) (hb : (0 ≤ bx ∧ bx ≤ d) ∧ (0 ≤ by_ ∧ by_ ≤ d)) : ∃ P : List S46, Ev (fun k => spec_PointsOn.f k ax ay bx by_) P ∧ Ev (fun k => impl_PointsOn.f k ax ay bx by_) P ∧ P.length ≤ 50 ∧ ∀ p ∈ P, (0 ≤ p.f0 ∧ p.f0 ≤ d) ∧ (0 ≤ p.f1 ∧ p.f1 ≤ d) := by
  obtain ⟨⟨a1, a2⟩, a3, a4⟩ := ha
  obtain ⟨⟨b1, b2⟩, b3, b4⟩ := hb
  have hgs : Ev (fun k => spec_l02Steps.f k ax ay bx by_) ((stepsN ax ay bx by_ : Nat) : Int) := by
    have := Ev.bind (f := fun _ t => some t) (gcd_spec (by_ - ay).natAbs (bx - ax).natAbs) (Ev.now _)
    refine Ev.congr (fun k => ?_) this
    unfold spec_l02Steps.f spec_l02Gcd.f
    rw [w64 (x := bx - ax) (by omega) (by omega), w64 (x := by_ - ay) (by omega) (by omega), mx_abs _ (by omega), mx_abs _ (by omega)]
  have hgi : Ev (fun k => impl_StepsOf.f k ax ay bx by_) ((stepsN ax ay bx by_ : Nat) : Int) := by
    have e : stepsN ax ay bx by_ = Nat.gcd (ax - bx).natAbs (ay - by_).natAbs := by
      unfold stepsN
      rw [show (ax - bx).natAbs = (bx - ax).natAbs by omega, show (ay - by_).natAbs = (by_ - ay).natAbs by omega]
    have := Ev.bind (f := fun _ t => some t) (gcd_impl _ (ax - bx) (ay - by_) rfl (by omega) (by omega)) (Ev.now _)
    rw [e]
    have hp : Ev (fun k => impl_arePoints.f k [(⟨ax, ay⟩ : S46), (⟨bx, by_⟩ : S46)]) true := by
      refine ⟨3, fun k hk => ?_⟩
      obtain ⟨j, rfl⟩ : ∃ j, k = j + 3 := ⟨k - 3, by omega⟩
      have c1 : wrap64 1 = 1 := w64 (by omega) (by omega)
      have c2 : wrap64 2 = 2 := w64 (by omega) (by omega)
      simp [impl_arePoints.f, impl_arePoints.l0, rd_T46, impl_PointOk.f, within_f, c1, c2, show 0 ≤ ax ∧ ax ≤ 40 by omega, show 0 ≤ ay ∧ ay ≤ 40 by omega, show 0 ≤ bx ∧ bx ≤ 40 by omega, show 0 ≤ by_ ∧ by_ ≤ 40 by omega]
    unfold impl_StepsOf.f
    refine Ev.bind hp ?_
    simp only [if_true]
    refine Ev.congr (fun k => ?_) this
    unfold impl_common.f
    rw [w64 (x := ax - bx) (by omega) (by omega), w64 (x := ay - by_) (by omega) (by omega)]
  have hokA : ∀ p : Int, 0 ≤ p → p ≤ d → decide (0 ≤ p ∧ p ≤ 40) = true := fun p h1 h2 => decide_eq_true ⟨h1, by omega⟩
  have top : ∀ P, Ev (fun k => spec_PointsOn.l0 k ((stepsN ax ay bx by_ : Nat) : Int) [(⟨ax, ay⟩ : S46)] 1 ax ay bx by_) P → Ev (fun k => spec_PointsOn.f k ax ay bx by_) P ∧ Ev (fun k => impl_PointsOn.f k ax ay bx by_) P := by
    intro P h
    constructor
    · refine Ev.step (fun k => ?_) (Ev.bind (f := fun k t => spec_PointsOn.l0 k t [(⟨ax, ay⟩ : S46)] 1 ax ay bx by_) hgs h)
      unfold spec_PointsOn.f spec_PointOk.f
      simp only [l01In_f, Option.bind_some, hokA _ a1 a2, hokA _ a3 a4, hokA _ b1 b2, hokA _ b3 b4, if_true, Bool.not_true, spec_PointsOn.j0, Bool.false_eq_true, if_false]
    · unfold impl_PointsOn.f
      refine Ev.bind hgi ?_
      have hg : ¬ ((stepsN ax ay bx by_ : Nat) : Int) < 0 := by omega
      simp only [hg, if_false]
      exact Ev.congr (fun k => same_on k _ _ _ _ _ _ _) h
  by_cases hz : stepsN ax ay bx by_ = 0
  · have hP : Ev (fun k => spec_PointsOn.l0 k ((stepsN ax ay bx by_ : Nat) : Int) [(⟨ax, ay⟩ : S46)] 1 ax ay bx by_) [(⟨ax, ay⟩ : S46)] := by
      rw [hz]
      refine Ev.step (f := fun _ => some [(⟨ax, ay⟩ : S46)]) (fun k => ?_) (Ev.now _)
      simp [spec_PointsOn.l0]
    obtain ⟨t1, t2⟩ := top _ hP
    refine ⟨_, t1, t2, by simp, fun p hp => ?_⟩
    rw [List.mem_singleton] at hp
    subst hp
    exact ⟨⟨a1, a2⟩, a3, a4⟩
  · have hpos : 1 ≤ stepsN ax ay bx by_ := by omega
    obtain ⟨q0, h0⟩ := quot (bx - ax) (stepsN ax ay bx by_) (Nat.gcd_dvd_left (bx - ax).natAbs (by_ - ay).natAbs)
    obtain ⟨q1, h1⟩ := quot (by_ - ay) (stepsN ax ay bx by_) (Nat.gcd_dvd_right (bx - ax).natAbs (by_ - ay).natAbs)
    have hle : stepsN ax ay bx by_ ≤ 40 := by
      by_cases hx : (bx - ax).natAbs = 0
      · have hy : 0 < (by_ - ay).natAbs := by
          refine Nat.pos_of_ne_zero fun e => hz ?_
          unfold stepsN
          rw [hx, e]
          rfl
        have := Nat.le_of_dvd hy (Nat.gcd_dvd_right (bx - ax).natAbs (by_ - ay).natAbs)
        unfold stepsN
        omega
      · have := Nat.le_of_dvd (Nat.pos_of_ne_zero hx) (Nat.gcd_dvd_left (bx - ax).natAbs (by_ - ay).natAbs)
        unfold stepsN
        omega
    generalize stepsN ax ay bx by_ = n at *
    have hv : ∀ i : Nat, 1 ≤ i → i ≤ n → _ := fun i hi1 hi2 => And.intro (on_val d ax bx q0 (n : Int) (i : Int) hd.2 ⟨a1, a2⟩ ⟨b1, b2⟩ h0 ⟨Int.ofNat_le.mpr hi1, Int.ofNat_le.mpr hi2⟩) (on_val d ay by_ q1 (n : Int) (i : Int) hd.2 ⟨a3, a4⟩ ⟨b3, b4⟩ h1 ⟨Int.ofNat_le.mpr hi1, Int.ofNat_le.mpr hi2⟩)
    have hP := on_l hpos hle hv n 1 [(⟨ax, ay⟩ : S46)] (Nat.add_sub_cancel ..) (Nat.le_refl _) (Nat.succ_le_succ (Nat.zero_le _)) (Nat.le_refl _)
    obtain ⟨t1, t2⟩ := top _ hP
    refine ⟨_, t1, t2, (by rw [List.length_append, List.length_map, List.length_range', List.length_singleton]; exact Nat.le_trans (Nat.add_le_add_left hle 1) (by decide)), fun p hp => ?_⟩
    rw [List.singleton_append, List.mem_cons] at hp
    rcases hp with rfl | hp
    · exact ⟨⟨a1, a2⟩, a3, a4⟩
    · obtain ⟨i, hi, rfl⟩ := List.mem_map.mp hp
      obtain ⟨i1, i2⟩ := List.mem_range'_1.mp hi
      have hii : 0 ≤ (i : Int) ∧ (i : Int) ≤ (n : Int) := ⟨Int.natCast_nonneg i, Int.ofNat_le.mpr (Nat.le_of_lt_succ (by rw [Nat.succ_eq_add_one, Nat.add_comm]; exact i2))⟩
      exact ⟨between ax bx q0 (n : Int) (i : Int) h0 hii d ⟨a1, a2⟩ ⟨b1, b2⟩, between ay by_ q1 (n : Int) (i : Int) h1 hii d ⟨a3, a4⟩ ⟨b3, b4⟩⟩
def colF (d : Int) (p : S46) : Int := (impl_ColorOf.f 66 d p.f0 p.f1).getD 0
section
variable {d : Int} {P : List S46} (hl : P.length ≤ 50) (hc : ∀ p ∈ P, (0 ≤ colF d p ∧ colF d p ≤ 2) ∧ Ev (fun k => impl_ColorOf.f k d p.f0 p.f1) (colF d p) ∧ Ev (fun k => spec_l14Color.f k d p.f0 p.f1) (colF d p))
include hl hc
theorem cols_impl (t : Nat) : ∀ (i : Nat) (out : List Int), P.length - i = t → i ≤ P.length → out.length ≤ i → Ev (fun k => impl_ColorsOn.l0 k d out P (P.length : Int) (i : Int)) (Go.Lib.compact ((out ++ (P.drop i).map (colF d)).mergeSort fun x y => decide (x ≤ y))) := by
  induction t with
  | zero =>
    intro i out ht hi ho
    rw [List.drop_of_length_le (by omega), List.map_nil, List.append_nil]
    have hol : (out.length < 4611686018427387904) = True := eq_true (by omega)
    refine Ev.step (f := fun _ => some (Go.Lib.compact (out.mergeSort fun x y => decide (x ≤ y)))) (fun k => ?_) (Ev.now _)
    simp only [impl_ColorsOn.l0, lt_f (show P.length ≤ i by omega), if_false, slices_Sort_int_int.f, slices_Compact_int_int.f, hol, if_true, Option.bind_some]
  | succ t ih =>
    intro i out ht hi ho
    have hlt : i < P.length := by omega
    have hi3 := w1 (show i ≤ 140737488355328 by omega)
    have hol : (out.length < 17592186044416) = True := eq_true (by omega)
    have H := ih (i + 1) (out ++ [colF d P[i]]) (by omega) (by omega) (by rw [List.length_append, List.length_singleton]; omega)
    rw [List.append_assoc, List.singleton_append] at H
    rw [List.drop_eq_getElem_cons hlt, List.map_cons]
    refine Ev.step (f := fun k => (impl_ColorOf.f k d (P[i]).f0 (P[i]).f1).bind fun t186 => impl_ColorsOn.l0 k d (out ++ [t186]) P (P.length : Int) ((i + 1 : Nat) : Int)) (fun k => ?_) (Ev.bind (hc P[i] (List.getElem_mem hlt)).2.1 H)
    simp only [impl_ColorsOn.l0, lt_t hlt, nn_t, if_true, rdC_get P i hlt, hi3, hol]
def hasC (d : Int) (P : List S46) (c : Int) : Bool := P.any fun p => colF d p == c
theorem cols_spec1 (ax ay bx by_ : Int) (c : Nat) (hcn : c < 3) (out R : List Int) (ho : out.length ≤ 10) (t : Nat) : ∀ (i : Nat) (fl : Bool), P.length - i = t → i ≤ P.length →
    Ev (fun k => spec_ColorsOn.l0 k d (if (fl || hasC d (P.drop i) (c : Int)) = true then out ++ [(c : Int)] else out) ((c + 1 : Nat) : Int) ax ay bx by_) R →
    Ev (fun k => spec_ColorsOn.l1 k d out (c : Int) fl P (P.length : Int) (i : Int) ax ay bx by_) R := by
  have hc3 := w1 (show c ≤ 140737488355328 by omega)
  have hol : (out.length < 17592186044416) = True := eq_true (by omega)
  induction t with
  | zero =>
    intro i fl ht hi H
    rw [List.drop_of_length_le (by omega)] at H
    have e : hasC d [] (c : Int) = false := rfl
    rw [e, Bool.or_false] at H
    refine Ev.step (fun k => ?_) H
    simp only [spec_ColorsOn.l1, lt_f (show P.length ≤ i by omega), if_false, hol, if_true, hc3]
    cases fl <;> rfl
  | succ t ih =>
    intro i fl ht hi H
    have hlt : i < P.length := by omega
    have hi3 := w1 (show i ≤ 140737488355328 by omega)
    have ec : hasC d (P.drop i) (c : Int) = ((colF d P[i] == (c : Int)) || hasC d (P.drop (i + 1)) (c : Int)) := by
      rw [List.drop_eq_getElem_cons hlt]; rfl
    rw [ec] at H
    cases fl with
    | true =>
      have := ih (i + 1) true (by omega) (by omega) (by simpa using H)
      refine Ev.step (fun k => ?_) this
      simp only [spec_ColorsOn.l1, lt_t hlt, nn_t, if_true, hi3]
    | false =>
      rw [Bool.false_or] at H
      refine Ev.step (f := fun k => (spec_l14Color.f k d (P[i]).f0 (P[i]).f1).bind fun t139 => spec_ColorsOn.l1 k d out (c : Int) (t139 == (c : Int)) P (P.length : Int) ((i + 1 : Nat) : Int) ax ay bx by_) (fun k => ?_) (Ev.bind (hc P[i] (List.getElem_mem hlt)).2.2 (ih (i + 1) _ (by omega) (by omega) H))
      simp only [spec_ColorsOn.l1, lt_t hlt, nn_t, if_true, rdC_get P i hlt, hi3, Bool.false_eq_true, if_false]
theorem cols_spec0 (ax ay bx by_ : Int) (hP : Ev (fun k => spec_PointsOn.f k ax ay bx by_) P) (t : Nat) : ∀ (c : Nat) (out : List Int), 3 - c = t → c ≤ 3 → out.length ≤ c → Ev (fun k => spec_ColorsOn.l0 k d out (c : Int) ax ay bx by_) (out ++ ((List.range' c t).map Int.ofNat).filter (hasC d P)) := by
  induction t with
  | zero =>
    intro c out ht hcn ho
    have e : c = 3 := by omega
    subst e
    refine Ev.step (f := fun _ => some out) (fun k => ?_) (by simpa using Ev.now out)
    simp [spec_ColorsOn.l0]
  | succ t ih =>
    intro c out ht hcn ho
    have hlt : c < 3 := by omega
    have hl3 : ((c : Int) < 3) = True := eq_true (by omega)
    have hol2 : (if (hasC d P (c : Int)) = true then out ++ [(c : Int)] else out).length ≤ c + 1 := by
      split
      · rw [List.length_append, List.length_singleton]; omega
      · omega
    have H := ih (c + 1) (if (hasC d P (c : Int)) = true then out ++ [(c : Int)] else out) (by omega) (by omega) hol2
    have e : (if (hasC d P (c : Int)) = true then out ++ [(c : Int)] else out) ++ ((List.range' (c + 1) t).map Int.ofNat).filter (hasC d P) = out ++ ((List.range' c (t + 1)).map Int.ofNat).filter (hasC d P) := by
      rw [List.range'_succ, List.map_cons, List.filter_cons]
      show _ = out ++ if hasC d P (c : Int) = true then (c : Int) :: _ else _
      split <;> simp
    rw [e] at H
    refine Ev.step (f := fun k => (spec_PointsOn.f k ax ay bx by_).bind fun t134 => spec_ColorsOn.l1 k d out (c : Int) false t134 (t134.length : Int) 0 ax ay bx by_) (fun k => ?_) (Ev.bind hP (cols_spec1 hl hc ax ay bx by_ c hlt out _ (by omega) P.length 0 false rfl (by omega) (by simpa using H)))
    simp only [spec_ColorsOn.l0, hl3, if_true]
end
theorem both_ColorsOn (d ax ay bx by_ : Int) : ∃ L : List Int, L.length ≤ 100 ∧ Ev (fun k => spec_ColorsOn.f k d ax ay bx by_) L ∧ Ev (fun k => impl_ColorsOn.f k d ax ay bx by_) L := by
  have js : ∀ k d a b c e, spec_ColorsOn.j0 (k + 1) d true a b c e = some [] := fun k d a b c e => by simp [spec_ColorsOn.j0]
  have ji : ∀ k d a b c e, impl_ColorsOn.j0 (k + 1) d true a b c e = some [] := fun k d a b c e => by simp [impl_ColorsOn.j0]
  have es : ∀ d a b c e, Ev (fun k => spec_ColorsOn.j0 k d true a b c e) [] := fun d a b c e => Ev.step (f := fun _ => some []) (fun k => js k d a b c e) (Ev.now _)
  have ei : ∀ d a b c e, Ev (fun k => impl_ColorsOn.j0 k d true a b c e) [] := fun d a b c e => Ev.step (f := fun _ => some []) (fun k => ji k d a b c e) (Ev.now _)
  have hm1 : ((-1 : Int) < 0) = True := eq_true (by omega)
  by_cases h1 : okC d ax ay
  · obtain ⟨g1, g2, g3⟩ := h1
    obtain ⟨r, _, ⟨r1, _⟩, ri, rs, _⟩ := colV d ax ay g1 g2 g3
    have hr : (r < 0) = False := eq_false (by omega)
    by_cases h2 : okC d bx by_
    · obtain ⟨_, g5, g6⟩ := h2
      obtain ⟨s, _, ⟨s1, _⟩, si, ss, _⟩ := colV d bx by_ g1 g5 g6
      have hs : decide (s < 0) = false := decide_eq_false (by omega)
      obtain ⟨P, p1, p2, p3, p4⟩ := points_f d ax ay bx by_ g1 ⟨g2, g3⟩ ⟨g5, g6⟩
      have hc : ∀ p ∈ P, (0 ≤ colF d p ∧ colF d p ≤ 2) ∧ Ev (fun k => impl_ColorOf.f k d p.f0 p.f1) (colF d p) ∧ Ev (fun k => spec_l14Color.f k d p.f0 p.f1) (colF d p) := by
        intro p hp
        obtain ⟨z, z1, z2, z3, _, z5⟩ := colV d p.f0 p.f1 g1 (p4 p hp).1 (p4 p hp).2
        have e : colF d p = z := by unfold colF; rw [z1]; rfl
        rw [e]
        exact ⟨z2, z3, z5⟩
      have A := cols_impl p3 hc P.length 0 [] rfl (by omega) (by simp)
      have B := cols_spec0 p3 hc ax ay bx by_ p1 3 0 [] (by omega) (by omega) (by simp)
      rw [List.nil_append, List.drop_zero] at A
      rw [List.nil_append] at B
      obtain ⟨s1', s2'⟩ := sorted_compact (P.map (colF d))
      have e : ((List.range' 0 3).map Int.ofNat).filter (hasC d P) = Go.Lib.compact ((P.map (colF d)).mergeSort fun x y => decide (x ≤ y)) := by
        refine asc_ext _ _ (List.Pairwise.filter _ (by decide)) s2' fun z => ?_
        have hmm : z ∈ P.map (colF d) ↔ ∃ p, p ∈ P ∧ colF d p = z := List.mem_map
        rw [s1', List.mem_filter, hmm]
        unfold hasC
        rw [List.any_eq_true]
        constructor
        · rintro ⟨_, p, hp, hz⟩
          exact ⟨p, hp, by simpa using hz⟩
        · rintro ⟨p, hp, rfl⟩
          obtain ⟨⟨z1, z2⟩, _⟩ := hc p hp
          refine ⟨?_, p, hp, by simp⟩
          generalize colF d p = z at z1 z2
          obtain rfl | rfl | rfl : z = 0 ∨ z = 1 ∨ z = 2 := by omega
          all_goals decide
      rw [e] at B
      refine ⟨Go.Lib.compact ((P.map (colF d)).mergeSort fun x y => decide (x ≤ y)), ?_, ?_, ?_⟩
      · have := slices_Compact_int_int.short ((P.map (colF d)).mergeSort fun x y => decide (x ≤ y))
        rw [List.length_mergeSort, List.length_map] at this
        omega
      · unfold spec_ColorsOn.f
        refine Ev.bind rs ?_
        simp only [hr, if_false]
        refine Ev.bind ss ?_
        rw [hs]
        refine Ev.step (fun k => ?_) B
        simp only [spec_ColorsOn.j0, Bool.false_eq_true, if_false]
        rfl
      · unfold impl_ColorsOn.f
        refine Ev.bind ri ?_
        simp only [hr, if_false]
        refine Ev.bind si ?_
        rw [hs]
        refine Ev.step (f := fun k => (impl_PointsOn.f k ax ay bx by_).bind fun t181 => impl_ColorsOn.l0 k d [] t181 (t181.length : Int) 0) (fun k => ?_) (Ev.bind p2 A)
        simp only [impl_ColorsOn.j0, Bool.false_eq_true, if_false]
    · obtain ⟨si, ss⟩ := colI d bx by_ h2
      refine ⟨[], by simp, ?_, ?_⟩
      · unfold spec_ColorsOn.f
        refine Ev.bind rs ?_
        simp only [hr, if_false]
        exact Ev.bind ss (es d ax ay bx by_)
      · unfold impl_ColorsOn.f
        refine Ev.bind ri ?_
        simp only [hr, if_false]
        exact Ev.bind si (ei d ax ay bx by_)
  · obtain ⟨si, ss⟩ := colI d ax ay h1
    refine ⟨[], by simp, ?_, ?_⟩
    · unfold spec_ColorsOn.f
      refine Ev.bind ss ?_
      simp only [hm1, if_true]
      exact es d ax ay bx by_
    · unfold impl_ColorsOn.f
      refine Ev.bind si ?_
      simp only [hm1, if_true]
      exact ei d ax ay bx by_
theorem FnExactColorsOn : laws_FnExactColorsOn.Pure := by
  intro d ax ay bx by_ _ _ _ _ _
  obtain ⟨L, hl, hs, hi⟩ := both_ColorsOn d ax ay bx by_
  refine Ev.rounds (g := fun k => laws_FnExactColorsOn.f k d ax ay bx by_) ?_
  unfold laws_FnExactColorsOn.f
  simp only [laws_toPoint.f, Option.bind_some]
  refine Ev.bind hs (Ev.bind hi (Ev.bind (ev_eqS L (by omega)) ?_))
  simp only [if_true]
  refine Ev.bind (ev_mark L (by omega)) (Ev.bind (ev_held L.length (by omega)) ?_)
  have hg : ¬ (1 + (L.length : Int) < 0) := by omega
  simp only [hg, if_false, if_true]
  refine Ev.bind hi (Ev.bind (ev_eqS L (by omega)) ?_)
  simp only [if_true]
  refine Ev.bind (ev_held L.length (by omega)) ?_
  simp only [hg, if_false, if_true]
  exact Ev.now _

end Go.Proofs.Ytpnngdljfnhnfaa.Pure
