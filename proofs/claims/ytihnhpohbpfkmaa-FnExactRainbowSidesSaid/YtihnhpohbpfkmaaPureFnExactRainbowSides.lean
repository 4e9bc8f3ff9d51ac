/- RainbowSides: both texts test the polygon and the colors alike, and count the sides whose ends have the colors 0 and 1. -/
import Derived.Test.YtihnhpohbpfkmaaXFnExactRainbowSidesx10
namespace Go.Proofs.Ytihnhpohbpfkmaa.Pure
open Go.RowKit Go.WideShapes Go.Proofs.Ytihnhpohbpfkmaa.XFnExactRainbowSides Go.Proofs.YtihnhpohbpfkmaaW.PrintWords Go.Proofs.YtihnhpohbpfkmaaW.PrintLast
set_option linter.unusedVariables false
set_option linter.unusedSimpArgs false
theorem wf64 {x : Int} (h : (Lit.int .i64 x).wf = true) : -9223372036854775808 ≤ x ∧ x ≤ 9223372036854775807 := by
  simp only [Lit.wf, IntKind.min, IntKind.max, IntKind.signed, IntKind.bits, Bool.and_eq_true, decide_eq_true_eq, if_true] at h
  omega
theorem w64 {x : Int} (h0 : -9223372036854775808 ≤ x) (h1 : x ≤ 9223372036854775807) : wrap64 x = x := by
  unfold wrap64
  omega
theorem w1 {i : Nat} (h : i ≤ 140737488355328) : wrap64 ((i : Int) + 1) = ((i + 1 : Nat) : Int) := by
  unfold wrap64
  omega
theorem half_of {x : Int} (h : Int.tmod x 2 = 0) : 2 * Int.tdiv x 2 = x := by
  have := Int.mul_tdiv_add_tmod x 2
  omega
theorem halv_l (k : Nat) : ∀ (x n : Int), x ≠ 0 → x.natAbs < 2 ^ k → -9223372036854775808 ≤ x → x ≤ 9223372036854775807 → ∃ r, spec_HalvingsOf.l0 k x n = some r ∧ impl_HalvingsOf.l0 k x n = some r := by
  induction k with
  | zero => intro x n h0 h1; simp at h1; omega
  | succ k ih =>
    intro x n h0 h1 h2 h3
    simp only [spec_HalvingsOf.l0, impl_HalvingsOf.l0]
    by_cases e : Int.tmod x 2 = 0
    · have hx := half_of e
      rw [if_pos e, if_pos e]
      have hw : wrap64 (Int.tdiv x 2) = Int.tdiv x 2 := by unfold wrap64; omega
      rw [hw]
      refine ih _ _ (by omega) ?_ (by omega) (by omega)
      rw [Nat.pow_succ] at h1
      omega
    · rw [if_neg e, if_neg e]
      exact ⟨n, rfl, rfl⟩
theorem halv_f (x : Int) (h2 : -9223372036854775808 ≤ x) (h3 : x ≤ 9223372036854775807) (k : Nat) (hk : 64 ≤ k) : ∃ r, spec_HalvingsOf.f k x = some r ∧ impl_HalvingsOf.f k x = some r := by
  unfold spec_HalvingsOf.f impl_HalvingsOf.f
  by_cases h0 : x = 0
  · rw [if_pos h0, if_pos h0]; exact ⟨100, rfl, rfl⟩
  · rw [if_neg h0, if_neg h0]
    refine halv_l k x 0 h0 ?_ h2 h3
    have : 2 ^ 64 ≤ 2 ^ k := Nat.pow_le_pow_right (by omega) hk
    have h64 : x.natAbs < 2 ^ 64 := by omega
    exact Nat.lt_of_lt_of_le h64 this

theorem within_f (a b c : Int) : impl_within.f a b c = some (decide (b ≤ a ∧ a ≤ c)) := by
  unfold impl_within.f
  by_cases h : a ≥ b
  · rw [if_pos h]; simp [show b ≤ a from h]
  · rw [if_neg h]; simp [show ¬ b ≤ a from h]
theorem l01In_f (a b c : Int) : spec_l01In.f a b c = some (decide (b ≤ a ∧ a ≤ c)) := by
  unfold spec_l01In.f
  by_cases h : a ≥ b
  · rw [if_pos h]; simp [show b ≤ a from h]
  · rw [if_neg h]; simp [show ¬ b ≤ a from h]

theorem color_f (d x y : Int) (hd : -9223372036854775808 ≤ d ∧ d ≤ 9223372036854775807) (hx : -9223372036854775808 ≤ x ∧ x ≤ 9223372036854775807) (hy : -9223372036854775808 ≤ y ∧ y ≤ 9223372036854775807) :
    ∃ r, spec_ColorOf.f 66 d x y = some r ∧ impl_ColorOf.f 66 d x y = some r ∧ (-1 ≤ r ∧ r ≤ 2) := by
  unfold spec_ColorOf.f impl_ColorOf.f
  simp only [l01In_f, within_f, Option.bind_some, impl_PointOk.f]
  by_cases h1 : 1 ≤ d ∧ d ≤ 40
  · by_cases h2 : (0 ≤ x ∧ x ≤ d) ∧ (0 ≤ y ∧ y ≤ d)
    · obtain ⟨u, u1, u2⟩ := halv_f x hx.1 hx.2 66 (by omega)
      obtain ⟨v, v1, v2⟩ := halv_f y hy.1 hy.2 66 (by omega)
      obtain ⟨s, s1, s2⟩ := halv_f d hd.1 hd.2 66 (by omega)
      obtain ⟨u', u1', u2'⟩ := halv_f x hx.1 hx.2 65 (by omega)
      obtain ⟨v', v1', v2'⟩ := halv_f y hy.1 hy.2 65 (by omega)
      obtain ⟨s', s1', s2'⟩ := halv_f d hd.1 hd.2 65 (by omega)
      obtain rfl : u' = u := Option.some.inj (((impl_HalvingsOf.mono x 65 _ u2').symm.trans u2))
      obtain rfl : v' = v := Option.some.inj (((impl_HalvingsOf.mono y 65 _ v2').symm.trans v2))
      obtain rfl : s' = s := Option.some.inj (((impl_HalvingsOf.mono d 65 _ s2').symm.trans s2))
      simp only [h1, h2, show x ≤ 40 by omega, show y ≤ 40 by omega, and_true, decide_true, if_true, spec_l14Color.f, u1, v1, s1, Option.bind_some, show ¬ (x > d) by omega, if_false, show ¬ (y > d) by omega, decide_false, impl_ColorOf.j0, u2', v2', s2', spec_l14Color.j0, impl_ColorOf.j1, Bool.false_eq_true]
      by_cases g1 : u' > s'
      · by_cases g2 : v' > s'
        · exact ⟨0, by simp [g1, g2], by simp [g1, g2], by omega⟩
        · by_cases g3 : u' ≤ v'
          · exact ⟨1, by simp [g1, g2, g3], by simp [g1, g2, g3], by omega⟩
          · exact ⟨2, by simp [g1, g2, g3], by simp [g1, g2, g3], by omega⟩
      · by_cases g3 : u' ≤ v'
        · exact ⟨1, by simp [g1, g3], by simp [g1, g3], by omega⟩
        · exact ⟨2, by simp [g1, g3], by simp [g1, g3], by omega⟩
    · refine ⟨-1, ?_, ?_, by omega⟩
      · by_cases h3 : 0 ≤ x ∧ x ≤ d
        · have h4 : ¬ (0 ≤ y ∧ y ≤ d) := fun h => h2 ⟨h3, h⟩
          simp [h1, h3, h4]
        · simp [h1, h3]
      · by_cases h3 : 0 ≤ x ∧ x ≤ 40
        · by_cases h4 : 0 ≤ y ∧ y ≤ 40
          · by_cases h5 : x > d
            · simp [h1, h3, h4, h5, impl_ColorOf.j0]
            · simp [h1, h3, h4, h5, impl_ColorOf.j0, show y > d by omega]
          · simp [h1, h3, h4, impl_ColorOf.j0]
        · simp [h1, h3, impl_ColorOf.j0]
  · refine ⟨-1, ?_, ?_, by omega⟩
    · simp [h1]
    · simp [h1, impl_ColorOf.j0]

def crw (a b p : S25) : Int := wrap64 ((wrap64 ((wrap64 (b.f0 - a.f0)) * (wrap64 (p.f1 - a.f1)))) - (wrap64 ((wrap64 (b.f1 - a.f1)) * (wrap64 (p.f0 - a.f0)))))
def onB (a b p : S25) : Bool := decide (crw a b p = 0) && (decide (mn a.f0 b.f0 ≤ p.f0 ∧ p.f0 ≤ mx a.f0 b.f0) && decide (mn a.f1 b.f1 ≤ p.f1 ∧ p.f1 ≤ mx a.f1 b.f1))
def sgn (x : Int) : Int := if x > 0 then 1 else if x < 0 then -1 else 0
theorem cross_f (a b p : S25) : impl_cross.f a.f0 a.f1 b.f0 b.f1 p.f0 p.f1 = some (crw a b p) := rfl
theorem s_cross_f (a b p : S25) : spec_l02Cross.f a.f0 a.f1 b.f0 b.f1 p.f0 p.f1 = some (crw a b p) := rfl
theorem on_f (a b p : S25) : impl_isOn.f a.f0 a.f1 b.f0 b.f1 p.f0 p.f1 = some (onB a b p) := by
  unfold impl_isOn.f onB
  simp only [cross_f, Option.bind_some, within_f]
  by_cases h1 : crw a b p = 0
  · rw [if_pos h1]
    by_cases h2 : mn a.f0 b.f0 ≤ p.f0 ∧ p.f0 ≤ mx a.f0 b.f0
    · rw [if_pos (decide_eq_true h2)]; simp [h1, h2]
    · rw [if_neg (by simpa using h2)]; simp [h2]
  · rw [if_neg h1]; simp [h1]
theorem s_on_f (a b p : S25) : spec_l02On.f a.f0 a.f1 b.f0 b.f1 p.f0 p.f1 = some (onB a b p) := by
  unfold spec_l02On.f onB
  simp only [s_cross_f, Option.bind_some]
  by_cases h1 : crw a b p = 0
  · rw [if_pos h1]
    by_cases h2 : mn a.f0 b.f0 ≤ p.f0
    · rw [if_pos h2]
      by_cases h3 : p.f0 ≤ mx a.f0 b.f0
      · rw [if_pos h3]
        by_cases h4 : mn a.f1 b.f1 ≤ p.f1
        · rw [if_pos h4]; simp [h1, h2, h3, h4]
        · rw [if_neg h4]; simp [h4]
      · rw [if_neg h3]; simp [h3]
    · rw [if_neg h2]; simp [h2]
  · rw [if_neg h1]; simp [h1]
theorem sign_f (x : Int) : impl_sign.f x = some (sgn x) := by
  unfold impl_sign.f sgn
  by_cases h : x > 0
  · rw [if_pos h, if_pos h]
  · rw [if_neg h, if_neg h]; split <;> rfl
theorem s_sign_f (x : Int) : spec_l02Sign.f x = some (sgn x) := sign_f x
theorem eqPt_iff (p q : S25) : eqPt p q = true ↔ p = q := by
  obtain ⟨a, b⟩ := p
  obtain ⟨c, d⟩ := q
  simp [eqPt]
def crossing (a b c d : S25) : Prop := wrap64 (sgn (crw a b c) * sgn (crw a b d)) < 0 ∧ wrap64 (sgn (crw c d a) * sgn (crw c d b)) < 0
instance (a b c d : S25) : Decidable (crossing a b c d) := by unfold crossing; infer_instance
def shared (a b c d : S25) : List S25 := ([c, d].filter (onB a b)) ++ ([a, b].filter (onB c d))
def addL (xs : List S25) : List S25 → List S25 := fun l => l.foldl addPt xs
def meetV (a b c d : S25) : Int :=
  if (addL [] (shared a b c d)).length > 1 then 3 else if (addL [] (shared a b c d)).length = 1 then 1 else if crossing a b c d then 2 else 0
theorem addPt_mem (xs : List S25) (p q : S25) : q ∈ addPt xs p ↔ q ∈ xs ∨ q = p := by
  unfold addPt
  by_cases h : xs.any (eqPt p) = true
  · rw [if_pos h]
    obtain ⟨x, hx, e⟩ := List.any_eq_true.mp h
    rw [eqPt_iff] at e
    subst e
    exact ⟨Or.inl, fun h => h.elim id (fun e => e ▸ hx)⟩
  · rw [if_neg h]; simp
theorem addPt_nodup (xs : List S25) (p : S25) (h : xs.Nodup) : (addPt xs p).Nodup := by
  unfold addPt
  by_cases c : xs.any (eqPt p) = true
  · rw [if_pos c]; exact h
  · rw [if_neg c]
    refine List.nodup_append.mpr ⟨h, by simp, fun x hx y hy e => c (List.any_eq_true.mpr ⟨x, hx, ?_⟩)⟩
    rw [eqPt_iff]
    simp only [List.mem_singleton] at hy
    rw [e, hy]
theorem addL_spec : ∀ (l xs : List S25), xs.Nodup → (addL xs l).Nodup ∧ ∀ q, q ∈ addL xs l ↔ q ∈ xs ∨ q ∈ l
  | [], xs, h => ⟨h, by simp [addL]⟩
  | p :: l, xs, h => by
    obtain ⟨h1, h2⟩ := addL_spec l (addPt xs p) (addPt_nodup xs p h)
    refine ⟨h1, fun q => ?_⟩
    show q ∈ addL (addPt xs p) l ↔ _
    rw [h2, addPt_mem]
    simp only [List.mem_cons]
    exact ⟨fun h => by rcases h with (h | h) | h <;> simp [h], fun h => by rcases h with h | h | h <;> simp [h]⟩
theorem addL_len (l : List S25) : (addL [] l = [] ↔ l = []) ∧ ((addL [] l).length = 1 ↔ l ≠ [] ∧ ∀ x ∈ l, ∀ y ∈ l, x = y) := by
  obtain ⟨h1, h2⟩ := addL_spec l [] List.nodup_nil
  have h3 : ∀ q, q ∈ addL [] l ↔ q ∈ l := fun q => by rw [h2]; simp
  refine ⟨⟨fun h => ?_, fun h => by subst h; rfl⟩, fun h => ?_, fun ⟨hn, he⟩ => ?_⟩
  · refine List.eq_nil_iff_forall_not_mem.mpr fun q hq => ?_
    rw [← h3, h] at hq
    simp at hq
  · obtain ⟨z, hz⟩ := List.length_eq_one_iff.mp h
    refine ⟨fun e => ?_, fun x hx y hy => ?_⟩
    · subst e; simp [addL] at h
    · rw [← h3, hz] at hx hy
      simp only [List.mem_singleton] at hx hy
      rw [hx, hy]
  · match hL : addL [] l, h1, h3 with
    | [], _, h3 =>
      exact absurd (List.eq_nil_iff_forall_not_mem.mpr fun q hq => by rw [← h3] at hq; simp at hq) hn
    | [z], _, _ => rfl
    | y :: z :: r, h1, h3 =>
      have hy := (h3 y).mp (by simp)
      have hz := (h3 z).mp (by simp)
      have e := he y hy z hz
      simp [e] at h1
theorem mtAll_f (a b : S25) : ∀ (l xs : List S25), mtAll (impl_meet.on a b) l xs = some (addL xs (l.filter (onB a b)))
  | [], xs => rfl
  | p :: l, xs => by
    show (impl_meet.on a b p).bind _ = _
    rw [show impl_meet.on a b p = some (onB a b p) from on_f a b p, Option.bind_some, mtAll_f a b l]
    by_cases h : onB a b p = true
    · rw [if_pos h, List.filter_cons_of_pos h]; rfl
    · rw [if_neg h, List.filter_cons_of_neg h]
theorem meet_f (a b c d : S25) : impl_meet.g a b c d = some (meetV a b c d) := by
  unfold impl_meet.g
  rw [mtAll_f, Option.bind_some, mtAll_f, Option.bind_some]
  have e : addL (addL [] ([c, d].filter (onB a b))) ([a, b].filter (onB c d)) = addL [] (shared a b c d) := by
    unfold addL shared
    rw [List.foldl_append]
  rw [e]
  unfold impl_meet.tail meetV
  simp only [cross_f, Option.bind_some, sign_f]
  by_cases h1 : (addL [] (shared a b c d)).length > 1
  · rw [if_pos (by omega), if_pos h1]
  · rw [if_neg (by omega), if_neg h1]
    by_cases h2 : (addL [] (shared a b c d)).length = 1
    · rw [if_pos (by omega), if_pos h2]
    · rw [if_neg (by omega), if_neg h2]
      by_cases h3 : wrap64 (sgn (crw a b c) * sgn (crw a b d)) < 0
      · rw [if_pos h3]
        by_cases h4 : wrap64 (sgn (crw c d a) * sgn (crw c d b)) < 0
        · rw [if_pos h4, if_pos ⟨h3, h4⟩]
        · rw [if_neg h4, if_neg (fun h => h4 h.2)]
      · rw [if_neg h3, if_neg (fun h => h3 h.1)]
theorem sgn_zero : sgn 0 = 0 := rfl
theorem crossing_none {a b c d : S25} (h : crossing a b c d) : shared a b c d = [] := by
  obtain ⟨h1, h2⟩ := h
  have f : ∀ {x y : Int}, wrap64 (sgn x * sgn y) < 0 → x ≠ 0 ∧ y ≠ 0 := by
    intro x y h
    refine ⟨fun e => ?_, fun e => ?_⟩
    · rw [e, sgn_zero, Int.zero_mul] at h; exact absurd h (by unfold wrap64; omega)
    · rw [e, sgn_zero, Int.mul_zero] at h; exact absurd h (by unfold wrap64; omega)
  obtain ⟨a1, a2⟩ := f h1
  obtain ⟨a3, a4⟩ := f h2
  have g : ∀ {a b p : S25}, crw a b p ≠ 0 → onB a b p = false := by
    intro a b p h
    unfold onB
    rw [decide_eq_false h, Bool.false_and]
  unfold shared
  simp [g a1, g a2, g a3, g a4]
def sharedS (a b c d : S25) : List S25 := ([a, b].filter (onB c d)) ++ ([c, d].filter (onB a b))
theorem sharedS_mem (a b c d : S25) (q : S25) : q ∈ sharedS a b c d ↔ q ∈ shared a b c d := by
  unfold sharedS shared
  simp only [List.mem_append]
  exact Or.comm
theorem rdT_nat (l : List S25) (i : Nat) (h : i < l.length) : rd_T25 l (i : Int) = l[i] := by simp [rd_T25, List.getD_eq_getElem?_getD, h]
theorem s_meet_l2 (xs : List S25) (hx : xs.length ≤ 100) (z : S25) (t : List S25) (hz : xs = z :: t) (d : Nat) : ∀ i : Nat, xs.length - i = d → i ≤ xs.length → Ev (fun k => spec_l02Meet.l2 k xs (xs.length : Int) (i : Int)) (if (xs.drop i).all (fun x => eqPt x z) = true then 1 else 3) := by
  have hr0 : rd_T25 xs 0 = z := by subst hz; rfl
  induction d with
  | zero =>
    intro i hd hi
    have e : xs.drop i = [] := List.drop_of_length_le (by omega)
    rw [e, if_pos List.all_nil]
    refine Ev.step (f := fun _ => some 1) (fun k => ?_) (Ev.now _)
    rw [spec_l02Meet.l2, if_neg (by omega)]
  | succ d ih =>
    intro i hd hi
    have hlt : i < xs.length := by omega
    have e : xs.drop i = xs[i] :: xs.drop (i + 1) := List.drop_eq_getElem_cons hlt
    by_cases c : xs[i] = z
    · have H := ih (i + 1) (by omega) (by omega)
      have ee : (xs.drop i).all (fun x => eqPt x z) = (xs.drop (i + 1)).all (fun x => eqPt x z) := by rw [e, List.all_cons, (eqPt_iff _ _).mpr c, Bool.true_and]
      rw [ee]
      refine Ev.step (fun k => ?_) H
      rw [spec_l02Meet.l2, if_pos (by omega), if_pos (by omega), if_pos (by omega), if_pos (by omega), rdT_nat xs i hlt, hr0, c, w1 (by omega)]
      simp
    · rw [if_neg (by rw [e, List.all_cons, show eqPt xs[i] z = false from by rw [← Bool.not_eq_true, eqPt_iff]; exact c]; simp)]
      refine Ev.step (f := fun _ => some 3) (fun k => ?_) (Ev.now _)
      rw [spec_l02Meet.l2, if_pos (by omega), if_pos (by omega), if_pos (by omega), if_pos (by omega), rdT_nat xs i hlt, hr0]
      rw [if_pos]
      have : ¬ (eqPt xs[i] z = true) := fun h => c ((eqPt_iff _ _).mp h)
      unfold eqPt at this
      revert this
      cases (xs[i].f0 == z.f0) <;> cases (xs[i].f1 == z.f1) <;> simp
theorem s_meet_l1 (a b : S25) (ys : List S25) (hy : ys.length ≤ 10) (R : Int) (xs0 : List S25)
    (hR : ∀ xs, xs = xs0 → Ev (fun k => if (xs.length : Int) = 0 then some 0 else spec_l02Meet.l2 k xs (xs.length : Int) 0) R) (n : Nat) : ∀ (i : Nat) (xs : List S25), ys.length - i = n → i ≤ ys.length → xs.length ≤ 10 + i → xs ++ (ys.drop i).filter (onB a b) = xs0 →
    Ev (fun k => spec_l02Meet.l1 k xs ys (ys.length : Int) (i : Int) a.f0 a.f1 b.f0 b.f1) R := by
  induction n with
  | zero =>
    intro i xs hn hi hl he
    rw [List.drop_of_length_le (by omega), List.filter_nil, List.append_nil] at he
    refine Ev.step (fun k => ?_) (hR xs he)
    rw [spec_l02Meet.l1, if_neg (by omega)]
  | succ n ih =>
    intro i xs hn hi hl he
    have hlt : i < ys.length := by omega
    rw [List.drop_eq_getElem_cons hlt] at he
    by_cases c : onB a b ys[i] = true
    · rw [List.filter_cons_of_pos c] at he
      have H := ih (i + 1) (xs ++ [ys[i]]) (by omega) (by omega) (by simp; omega) (by simpa using he)
      refine Ev.step (fun k => ?_) H
      rw [spec_l02Meet.l1, if_pos (by omega), if_pos (by omega), if_pos (by omega), rdT_nat ys i hlt, s_on_f, Option.bind_some, if_pos c, if_pos (by omega), w1 (by omega)]
    · rw [List.filter_cons_of_neg c] at he
      have H := ih (i + 1) xs (by omega) (by omega) (by omega) he
      refine Ev.step (fun k => ?_) H
      rw [spec_l02Meet.l1, if_pos (by omega), if_pos (by omega), if_pos (by omega), rdT_nat ys i hlt, s_on_f, Option.bind_some, if_neg c, w1 (by omega)]
theorem s_meet_l0 (a b c d : S25) (ys : List S25) (hy : ys.length ≤ 10) (R : Int) (xs0 : List S25)
    (hR : ∀ xs, xs = xs0 → Ev (fun k => spec_l02Meet.l1 k xs [c, d] 2 0 a.f0 a.f1 b.f0 b.f1) R) (n : Nat) : ∀ (i : Nat) (xs : List S25), ys.length - i = n → i ≤ ys.length → xs.length ≤ 10 + i → xs ++ (ys.drop i).filter (onB c d) = xs0 →
    Ev (fun k => spec_l02Meet.l0 k xs ys (ys.length : Int) (i : Int) a.f0 a.f1 b.f0 b.f1 c.f0 c.f1 d.f0 d.f1) R := by
  induction n with
  | zero =>
    intro i xs hn hi hl he
    rw [List.drop_of_length_le (by omega), List.filter_nil, List.append_nil] at he
    refine Ev.step (fun k => ?_) (hR xs he)
    rw [spec_l02Meet.l0, if_neg (by omega)]
    rfl
  | succ n ih =>
    intro i xs hn hi hl he
    have hlt : i < ys.length := by omega
    rw [List.drop_eq_getElem_cons hlt] at he
    by_cases c' : onB c d ys[i] = true
    · rw [List.filter_cons_of_pos c'] at he
      have H := ih (i + 1) (xs ++ [ys[i]]) (by omega) (by omega) (by simp; omega) (by simpa using he)
      refine Ev.step (fun k => ?_) H
      rw [spec_l02Meet.l0, if_pos (by omega), if_pos (by omega), if_pos (by omega), rdT_nat ys i hlt, s_on_f, Option.bind_some, if_pos c', if_pos (by omega), w1 (by omega)]
    · rw [List.filter_cons_of_neg c'] at he
      have H := ih (i + 1) xs (by omega) (by omega) (by omega) he
      refine Ev.step (fun k => ?_) H
      rw [spec_l02Meet.l0, if_pos (by omega), if_pos (by omega), if_pos (by omega), rdT_nat ys i hlt, s_on_f, Option.bind_some, if_neg c', w1 (by omega)]
theorem sharedS_len (a b c d : S25) : (sharedS a b c d).length ≤ 4 := by
  unfold sharedS
  rw [List.length_append]
  have h1 := List.length_filter_le (onB c d) [a, b]
  have h2 := List.length_filter_le (onB a b) [c, d]
  simp only [List.length_cons, List.length_nil] at h1 h2
  omega
theorem s_meet_f (a b c d : S25) : Ev (fun k => spec_l02Meet.f k a.f0 a.f1 b.f0 b.f1 c.f0 c.f1 d.f0 d.f1) (meetV a b c d) := by
  have hL := addL_len (shared a b c d)
  have key : ¬ crossing a b c d → Ev (fun k => spec_l02Meet.j0 k false a.f0 a.f1 b.f0 b.f1 c.f0 c.f1 d.f0 d.f1) (meetV a b c d) := by
    intro hc
    refine Ev.step (f := fun k => spec_l02Meet.l0 k [] [a, b] 2 0 a.f0 a.f1 b.f0 b.f1 c.f0 c.f1 d.f0 d.f1) (fun k => ?_) ?_
    · rw [spec_l02Meet.j0, if_neg (by simp)]; rfl
    · refine s_meet_l0 a b c d [a, b] (by simp) _ ([a, b].filter (onB c d)) (fun xs hxs => ?_) 2 0 [] rfl (by simp) (by simp) (by simp)
      have hxl : xs.length ≤ 2 := by rw [hxs]; exact Nat.le_trans (List.length_filter_le _ _) (by simp)
      refine s_meet_l1 a b [c, d] (by simp) _ (sharedS a b c d) (fun ys hys => ?_) 2 0 xs rfl (by simp) (by omega) (by rw [hxs]; rfl)
      have hl4 : ys.length ≤ 4 := by rw [hys]; exact sharedS_len a b c d
      unfold meetV
      rw [if_neg hc]
      cases ys with
      | nil =>
        have e : shared a b c d = [] := List.eq_nil_iff_forall_not_mem.mpr fun q hq => by rw [← sharedS_mem, ← hys] at hq; simp at hq
        rw [e]
        exact Ev.now _
      | cons z t =>
        have hz : z ∈ shared a b c d := by rw [← sharedS_mem, ← hys]; simp
        have hne : shared a b c d ≠ [] := fun e => by rw [e] at hz; simp at hz
        have hn0 : addL [] (shared a b c d) ≠ [] := fun e => hne (hL.1.mp e)
        have hpos : 0 < (addL [] (shared a b c d)).length := List.length_pos_iff.mpr hn0
        have H := s_meet_l2 (z :: t) (by omega) z t rfl _ 0 rfl (by omega)
        have ev : (if (addL [] (shared a b c d)).length > 1 then (3 : Int) else if (addL [] (shared a b c d)).length = 1 then 1 else 0) = if ((z :: t).drop 0).all (fun x => eqPt x z) = true then 1 else 3 := by
          by_cases cc : ((z :: t).drop 0).all (fun x => eqPt x z) = true
          · have h1 := hL.2.mpr ⟨hne, fun x hx y hy => by
              rw [← sharedS_mem, ← hys] at hx hy
              have f : ∀ q ∈ z :: t, q = z := fun q hq => (eqPt_iff _ _).mp (List.all_eq_true.mp cc q hq)
              exact (f x hx).trans (f y hy).symm⟩
            rw [if_pos cc, if_neg (by omega), if_pos h1]
          · have h1 : ¬ (addL [] (shared a b c d)).length = 1 := fun h => cc (List.all_eq_true.mpr fun x hx => (eqPt_iff _ _).mpr ((hL.2.mp h).2 x (by rw [← sharedS_mem, ← hys]; exact hx) z hz))
            rw [if_neg cc, if_pos (by omega)]
        rw [ev]
        exact Ev.congr (fun k => by rw [if_neg (by simp only [List.length_cons]; omega)]; rfl) H
  unfold spec_l02Meet.f
  simp only [s_cross_f, s_sign_f, Option.bind_some]
  by_cases h1 : wrap64 (sgn (crw a b c) * sgn (crw a b d)) < 0
  · by_cases h2 : wrap64 (sgn (crw c d a) * sgn (crw c d b)) < 0
    · simp only [if_pos h1]
      rw [decide_eq_true h2]
      refine Ev.step (f := fun _ => some (meetV a b c d)) (fun k => ?_) (Ev.now _)
      rw [spec_l02Meet.j0, if_pos rfl]
      have e := crossing_none ⟨h1, h2⟩
      unfold meetV
      rw [e, if_neg (by simp [addL]), if_neg (by simp [addL]), if_pos ⟨h1, h2⟩]
    · simp only [if_pos h1]
      rw [decide_eq_false h2]
      exact key fun h => h2 h.2
  · simp only [if_neg h1]
    exact key fun h => h1 h.1

/-! a polygon: the program's and the reference's tests are one -/
def pt (l : List S25) (i : Nat) : S25 := rd_T25 l (i : Int)
def nx (n i : Nat) : Nat := (i + 1) % n
theorem nx_lt {n i : Nat} (h : 0 < n) : nx n i < n := Nat.mod_lt _ h
theorem tm {n i : Nat} (hi : i ≤ 1000) : Int.tmod (wrap64 ((i : Int) + 1)) (n : Int) = ((nx n i : Nat) : Int) := by
  rw [w1 (by omega)]
  exact (Int.ofNat_tmod _ _).symm
theorem tm2 {n i : Nat} : Int.tmod ((i + 1 : Nat) : Int) (n : Int) = ((nx n i : Nat) : Int) := (Int.ofNat_tmod _ _).symm
def wantV (n i k : Nat) : Int := if k = i + 1 ∨ (i = 0 ∧ k + 1 = n) then 1 else 0
def meetsB (l : List S25) (i k : Nat) : Bool := meetV (pt l i) (pt l (nx l.length i)) (pt l k) (pt l (nx l.length k)) == wantV l.length i k
def ptOk (p : S25) : Bool := decide (0 ≤ p.f0 ∧ p.f0 ≤ 40) && decide (0 ≤ p.f1 ∧ p.f1 ≤ 40)
theorem ptOk_f (p : S25) : impl_PointOk.f p.f0 p.f1 = some (ptOk p) := by
  unfold impl_PointOk.f ptOk
  rw [within_f, Option.bind_some]
  by_cases h : 0 ≤ p.f0 ∧ p.f0 ≤ 40
  · rw [if_pos (decide_eq_true h), within_f, Option.bind_some, decide_eq_true h, Bool.true_and]
  · rw [if_neg (by simpa using h), decide_eq_false h, Bool.false_and]
theorem s_ptOk_f (p : S25) : spec_PointOk.f p.f0 p.f1 = some (ptOk p) := by
  unfold spec_PointOk.f ptOk
  rw [l01In_f, Option.bind_some]
  by_cases h : 0 ≤ p.f0 ∧ p.f0 ≤ 40
  · rw [if_pos (decide_eq_true h), l01In_f, Option.bind_some, decide_eq_true h, Bool.true_and]
  · rw [if_neg (by simpa using h), decide_eq_false h, Bool.false_and]
theorem drop_all {α : Type} {l : List α} {i : Nat} (f : α → Bool) (h : i < l.length) : (l.drop i).all f = (f l[i] && (l.drop (i + 1)).all f) := by
  rw [List.drop_eq_getElem_cons h, List.all_cons]
theorem arePoints_f (l : List S25) (hl : l.length ≤ 1000) (d : Nat) : ∀ i : Nat, l.length - i = d → i ≤ l.length → Ev (fun k => impl_arePoints.l0 k l (l.length : Int) (i : Int)) ((l.drop i).all ptOk) := by
  induction d with
  | zero =>
    intro i hd hi
    rw [List.drop_of_length_le (by omega), List.all_nil]
    refine Ev.step (f := fun _ => some true) (fun k => ?_) (Ev.now _)
    rw [impl_arePoints.l0, if_neg (by omega)]
  | succ d ih =>
    intro i hd hi
    have hlt : i < l.length := by omega
    rw [drop_all _ hlt]
    by_cases c : ptOk l[i] = true
    · rw [c, Bool.true_and]
      refine Ev.step (fun k => ?_) (ih (i + 1) (by omega) (by omega))
      rw [impl_arePoints.l0, if_pos (by omega), if_pos (by omega), if_pos (by omega), rdT_nat l i hlt, ptOk_f, Option.bind_some, if_pos c, w1 (by omega)]
    · rw [show ptOk l[i] = false by simpa using c, Bool.false_and]
      refine Ev.step (f := fun _ => some false) (fun k => ?_) (Ev.now _)
      rw [impl_arePoints.l0, if_pos (by omega), if_pos (by omega), if_pos (by omega), rdT_nat l i hlt, ptOk_f, Option.bind_some, if_neg c]
def pairB (l : List S25) (i k : Nat) : Bool := (!eqPt (pt l i) (pt l (i + 1))) && ((!eqPt (pt l k) (pt l (nx l.length k))) && (meetV (pt l i) (pt l (i + 1)) (pt l k) (pt l (nx l.length k)) == wantV l.length i k))
theorem poPair_f (l : List S25) (i k : Nat) : poPair l i k = some (pairB l i k) := by
  unfold poPair pairB pt nx wantV
  by_cases c1 : eqPt (rd_T25 l (i : Int)) (rd_T25 l ((i + 1 : Nat) : Int)) = true
  · rw [if_pos c1, c1]; rfl
  · rw [if_neg c1, show eqPt (rd_T25 l (i : Int)) (rd_T25 l ((i + 1 : Nat) : Int)) = false by simpa using c1]
    by_cases c2 : eqPt (rd_T25 l (k : Int)) (rd_T25 l (((k + 1) % l.length : Nat) : Int)) = true
    · rw [if_pos c2, c2]; rfl
    · rw [if_neg c2, show eqPt (rd_T25 l (k : Int)) (rd_T25 l (((k + 1) % l.length : Nat) : Int)) = false by simpa using c2, meet_f, Option.bind_some]
      rfl
theorem poInner_f (l : List S25) (i : Nat) : ∀ m k, poInner l i m k = some ((List.range' k m).all (pairB l i))
  | 0, k => rfl
  | m + 1, k => by
    rw [poInner, poPair_f, Option.bind_some, List.range'_succ, List.all_cons]
    by_cases c : pairB l i k = true
    · rw [if_pos c, c, Bool.true_and]; exact poInner_f l i m (k + 1)
    · rw [if_neg c, show pairB l i k = false by simpa using c, Bool.false_and]
theorem poOuter_f (l : List S25) : ∀ m i, i + m = l.length → poOuter l m i = some ((List.range' i m).all fun j => (List.range' (j + 1) (l.length - (j + 1))).all (pairB l j))
  | 0, i, _ => rfl
  | m + 1, i, h => by
    rw [poOuter, poInner_f, Option.bind_some, List.range'_succ, List.all_cons, show l.length - (i + 1) = m by omega]
    by_cases c : (List.range' (i + 1) m).all (pairB l i) = true
    · rw [if_pos c, c, Bool.true_and]; exact poOuter_f l m (i + 1) (by omega)
    · rw [if_neg c, (Bool.not_eq_true _).mp c, Bool.false_and]
def polyB (l : List S25) : Bool := decide (3 ≤ l.length ∧ l.length ≤ 10) && (l.all ptOk && (((List.range l.length).all fun i => !eqPt (pt l i) (pt l (nx l.length i))) && ((List.range l.length).all fun i => (List.range' (i + 1) (l.length - (i + 1))).all (meetsB l i))))
theorem poly_same (l : List S25) (h3 : 3 ≤ l.length) : ((List.range' 0 l.length).all fun j => (List.range' (j + 1) (l.length - (j + 1))).all (pairB l j)) = (((List.range l.length).all fun i => !eqPt (pt l i) (pt l (nx l.length i))) && ((List.range l.length).all fun i => (List.range' (i + 1) (l.length - (i + 1))).all (meetsB l i))) := by
  have nxe : ∀ i, i + 1 < l.length → nx l.length i = i + 1 := fun i hi => Nat.mod_eq_of_lt hi
  rw [Bool.eq_iff_iff]
  simp only [List.all_eq_true, Bool.and_eq_true, List.mem_range, List.mem_range'_1, pairB, meetsB, Bool.not_eq_true']
  constructor
  · intro H
    refine ⟨fun i hi => ?_, fun i hi k hk => ?_⟩
    · by_cases c : i + 1 < l.length
      · rw [nxe i c]
        exact (H i ⟨by omega, by omega⟩ (i + 1) ⟨by omega, by omega⟩).1
      · exact (H 0 ⟨by omega, by omega⟩ i ⟨by omega, by omega⟩).2.1
    · rw [nxe i (by omega)]
      exact (H i ⟨by omega, by omega⟩ k hk).2.2
  · intro ⟨H1, H2⟩ i hi k hk
    have := H2 i (by omega) k hk
    have h1 := H1 i (by omega)
    rw [nxe i (by omega)] at this h1
    exact ⟨h1, H1 k (by omega), this⟩
theorem impl_poly (l : List S25) (hl : l.length ≤ 1048576) : Ev (fun k => impl_PolygonOk.f k l) (polyB l) := by
  unfold impl_PolygonOk.f polyB
  by_cases c1 : l.length < 3
  · simp only [if_pos c1]
    rw [show decide (3 ≤ l.length ∧ l.length ≤ 10) = false from decide_eq_false (by omega), Bool.false_and]
    exact Ev.now _
  · by_cases c2 : l.length > 10
    · simp only [if_neg c1, if_pos c2]
      rw [show decide (3 ≤ l.length ∧ l.length ≤ 10) = false from decide_eq_false (by omega), Bool.false_and]
      exact Ev.now _
    · simp only [if_neg c1, if_neg c2]
      rw [show decide (3 ≤ l.length ∧ l.length ≤ 10) = true from decide_eq_true (by omega), Bool.true_and]
      refine Ev.bind (arePoints_f l (by omega) l.length 0 (by omega) (by omega)) ?_
      rw [List.drop_zero]
      by_cases c : l.all ptOk = true
      · simp only [if_pos c]
        rw [c, Bool.true_and, poOuter_f l l.length 0 (by omega), poly_same l (by omega)]
        exact Ev.now _
      · simp only [if_neg c]
        rw [show l.all ptOk = false by simpa using c, Bool.false_and]
        exact Ev.now _
theorem sp_l3 (l : List S25) (h3 : 3 ≤ l.length ∧ l.length ≤ 10) (i : Nat) (hi : i < l.length) (R : Bool) (hR : Ev (fun k => spec_PolygonOk.l2 k l (l.length : Int) (l.length : Int) ((i + 1 : Nat) : Int)) R) (d : Nat) :
    ∀ j : Nat, l.length - j = d → i < j → j ≤ l.length → Ev (fun k => spec_PolygonOk.l3 k l (l.length : Int) (i : Int) (j : Int) (l.length : Int) (i : Int)) ((List.range' j d).all (meetsB l i) && R) := by
  have hn := nx_lt (n := l.length) (i := i) (by omega)
  induction d with
  | zero =>
    intro j hd hij hj
    refine Ev.step (fun k => ?_) (show Ev _ _ from hR)
    rw [spec_PolygonOk.l3, if_neg (by omega), w1 (by omega)]
  | succ d ih =>
    intro j hd hij hj
    have hnj := nx_lt (n := l.length) (i := j) (by omega)
    have H := ih (j + 1) (by omega) (by omega) (by omega)
    rw [List.range'_succ, List.all_cons]
    have hj4 : ∀ b : Bool, wantV l.length i j = (if b = true then 1 else 0) → Ev (fun k => spec_PolygonOk.j4 k l (l.length : Int) (i : Int) (j : Int) (meetV (pt l i) (pt l (nx l.length i)) (pt l j) (pt l (nx l.length j))) (l.length : Int) (i : Int) b) ((meetsB l i j && (List.range' (j + 1) d).all (meetsB l i)) && R) := by
      intro b hb
      by_cases c : meetsB l i j = true
      · rw [c, Bool.true_and]
        refine Ev.step (fun k => ?_) H
        have e : meetV (pt l i) (pt l (nx l.length i)) (pt l j) (pt l (nx l.length j)) = if b = true then 1 else 0 := by rw [← hb]; exact beq_iff_eq.mp c
        rw [spec_PolygonOk.j4, e, w1 (by omega)]
        cases b <;> rfl
      · rw [show meetsB l i j = false by simpa using c, Bool.false_and, Bool.false_and]
        refine Ev.step (f := fun _ => some false) (fun k => ?_) (Ev.now _)
        have e : meetV (pt l i) (pt l (nx l.length i)) (pt l j) (pt l (nx l.length j)) ≠ if b = true then 1 else 0 := by rw [← hb]; exact fun h => c (beq_iff_eq.mpr h)
        rw [spec_PolygonOk.j4]
        cases b
        · rw [if_neg (by simp), if_neg (by simpa using e)]
        · rw [if_pos rfl, if_neg (by simpa using e)]
    have hm := s_meet_f (pt l i) (pt l (nx l.length i)) (pt l j) (pt l (nx l.length j))
    refine Ev.step (f := fun k => (spec_l02Meet.f k (pt l i).f0 (pt l i).f1 (pt l (nx l.length i)).f0 (pt l (nx l.length i)).f1 (pt l j).f0 (pt l j).f1 (pt l (nx l.length j)).f0 (pt l (nx l.length j)).f1).bind fun t => if (j : Int) = wrap64 ((i : Int) + 1) then spec_PolygonOk.j4 k l (l.length : Int) (i : Int) (j : Int) t (l.length : Int) (i : Int) true else if (i : Int) = 0 then spec_PolygonOk.j4 k l (l.length : Int) (i : Int) (j : Int) t (l.length : Int) (i : Int) ((j : Int) == wrap64 ((l.length : Int) - 1)) else spec_PolygonOk.j4 k l (l.length : Int) (i : Int) (j : Int) t (l.length : Int) (i : Int) false) (fun k => ?_) (Ev.bind hm ?_)
    · rw [spec_PolygonOk.l3, if_pos (by omega), if_pos (by omega), if_pos (by omega), if_neg (by omega)]
      simp only [tm (n := l.length) (show i ≤ 1000 by omega), tm (n := l.length) (show j ≤ 1000 by omega)]
      rw [if_pos (by omega), if_pos (by omega), if_pos (by omega), if_pos (by omega), if_pos (by omega), if_pos (by omega)]
      rfl
    · rw [w1 (show i ≤ 140737488355328 by omega), w64 (x := (l.length : Int) - 1) (by omega) (by omega)]
      by_cases c1 : j = i + 1
      · simp only [if_pos (show (j : Int) = ((i + 1 : Nat) : Int) by omega)]
        exact hj4 true (by unfold wantV; rw [if_pos (Or.inl c1), if_pos rfl])
      · simp only [if_neg (show ¬ (j : Int) = ((i + 1 : Nat) : Int) by omega)]
        by_cases c2 : i = 0
        · simp only [if_pos (show (i : Int) = 0 by omega)]
          refine hj4 _ ?_
          unfold wantV
          by_cases c3 : j + 1 = l.length
          · rw [if_pos (Or.inr ⟨c2, c3⟩), if_pos (beq_iff_eq.mpr (by omega))]
          · rw [if_neg (by omega), if_neg (by rw [beq_iff_eq]; omega)]
        · simp only [if_neg (show ¬ (i : Int) = 0 by omega)]
          exact hj4 false (by unfold wantV; rw [if_neg (by omega), if_neg (by simp)])
theorem sp_l2 (l : List S25) (h3 : 3 ≤ l.length ∧ l.length ≤ 10) (d : Nat) : ∀ i : Nat, l.length - i = d → i ≤ l.length → Ev (fun k => spec_PolygonOk.l2 k l (l.length : Int) (l.length : Int) (i : Int)) ((List.range' i d).all fun i => (List.range' (i + 1) (l.length - (i + 1))).all (meetsB l i)) := by
  induction d with
  | zero =>
    intro i hd hi
    refine Ev.step (f := fun _ => some true) (fun k => ?_) (Ev.now _)
    rw [spec_PolygonOk.l2, if_neg (by omega)]
  | succ d ih =>
    intro i hd hi
    rw [List.range'_succ, List.all_cons]
    refine Ev.step (fun k => ?_) (sp_l3 l h3 i (by omega) _ (ih (i + 1) (by omega) (by omega)) (l.length - (i + 1)) (i + 1) rfl (by omega) (by omega))
    rw [spec_PolygonOk.l2, if_pos (by omega), w1 (by omega)]
theorem sp_l1 (l : List S25) (h3 : 3 ≤ l.length ∧ l.length ≤ 10) (d : Nat) : ∀ i : Nat, l.length - i = d → i ≤ l.length → Ev (fun k => spec_PolygonOk.l1 k l (l.length : Int) (l.length : Int) (i : Int)) (((List.range' i d).all fun i => !eqPt (pt l i) (pt l (nx l.length i))) && ((List.range' 0 l.length).all fun i => (List.range' (i + 1) (l.length - (i + 1))).all (meetsB l i))) := by
  induction d with
  | zero =>
    intro i hd hi
    refine Ev.step (fun k => ?_) (sp_l2 l h3 l.length 0 (by omega) (by omega))
    rw [spec_PolygonOk.l1, if_neg (by omega)]
    rfl
  | succ d ih =>
    intro i hd hi
    have hn := nx_lt (n := l.length) (i := i) (by omega)
    rw [List.range'_succ, List.all_cons]
    by_cases c : eqPt (pt l i) (pt l (nx l.length i)) = true
    · rw [c]
      refine Ev.step (f := fun _ => some false) (fun k => ?_) (Ev.now _)
      rw [spec_PolygonOk.l1, if_pos (by omega), if_pos (by omega), if_pos (by omega), if_neg (by omega), tm (n := l.length) (show i ≤ 1000 by omega), if_pos (by omega), if_pos (by omega)]
      exact if_pos c
    · rw [show eqPt (pt l i) (pt l (nx l.length i)) = false by simpa using c, Bool.not_false, Bool.true_and]
      refine Ev.step (fun k => ?_) (ih (i + 1) (by omega) (by omega))
      rw [spec_PolygonOk.l1, if_pos (by omega), if_pos (by omega), if_pos (by omega), if_neg (by omega), tm (n := l.length) (show i ≤ 1000 by omega), if_pos (by omega), if_pos (by omega), w1 (by omega)]
      exact if_neg c
theorem sp_l0 (l : List S25) (h3 : 3 ≤ l.length ∧ l.length ≤ 10) (d : Nat) : ∀ i : Nat, l.length - i = d → i ≤ l.length → Ev (fun k => spec_PolygonOk.l0 k l l (l.length : Int) (i : Int)) ((l.drop i).all ptOk && (((List.range' 0 l.length).all fun i => !eqPt (pt l i) (pt l (nx l.length i))) && ((List.range' 0 l.length).all fun i => (List.range' (i + 1) (l.length - (i + 1))).all (meetsB l i)))) := by
  induction d with
  | zero =>
    intro i hd hi
    rw [List.drop_of_length_le (by omega), List.all_nil, Bool.true_and]
    refine Ev.step (fun k => ?_) (sp_l1 l h3 l.length 0 (by omega) (by omega))
    rw [spec_PolygonOk.l0, if_neg (by omega)]
    rfl
  | succ d ih =>
    intro i hd hi
    have hlt : i < l.length := by omega
    rw [drop_all _ hlt]
    by_cases c : ptOk l[i] = true
    · rw [c, Bool.true_and]
      refine Ev.step (fun k => ?_) (ih (i + 1) (by omega) (by omega))
      rw [spec_PolygonOk.l0, if_pos (by omega), if_pos (by omega), if_pos (by omega), rdT_nat l i hlt, s_ptOk_f, Option.bind_some, if_pos c, w1 (by omega)]
    · rw [show ptOk l[i] = false by simpa using c, Bool.false_and, Bool.false_and]
      refine Ev.step (f := fun _ => some false) (fun k => ?_) (Ev.now _)
      rw [spec_PolygonOk.l0, if_pos (by omega), if_pos (by omega), if_pos (by omega), rdT_nat l i hlt, s_ptOk_f, Option.bind_some, if_neg c]
theorem spec_poly (l : List S25) : Ev (fun k => spec_PolygonOk.f k l) (polyB l) := by
  unfold spec_PolygonOk.f polyB
  simp only [l01In_f, Option.bind_some]
  by_cases c : 3 ≤ l.length ∧ l.length ≤ 10
  · simp only [if_pos (show decide ((3 : Int) ≤ (l.length : Int) ∧ (l.length : Int) ≤ 10) = true from decide_eq_true (by omega))]
    rw [show decide (3 ≤ l.length ∧ l.length ≤ 10) = true from decide_eq_true c, Bool.true_and]
    have := sp_l0 l c l.length 0 (by omega) (by omega)
    rw [List.drop_zero, ← List.range_eq_range'] at this
    exact this
  · simp only [if_neg (show ¬ decide ((3 : Int) ≤ (l.length : Int) ∧ (l.length : Int) ≤ 10) = true by rw [decide_eq_true_eq]; omega)]
    rw [show decide (3 ≤ l.length ∧ l.length ≤ 10) = false from decide_eq_false c, Bool.false_and]
    exact Ev.now _

/-! colors of points -/
structure In64 (x : Int) : Prop where
  lo : -9223372036854775808 ≤ x
  hi : x ≤ 9223372036854775807
theorem in64 {x : Int} (h : (Lit.int .i64 x).wf = true) : In64 x := ⟨(wf64 h).1, (wf64 h).2⟩
def P64 (p : S25) : Prop := In64 p.f0 ∧ In64 p.f1
def colV (d : Int) (p : S25) : Int := (impl_ColorOf.f 66 d p.f0 p.f1).getD 0
theorem colV_spec {d : Int} {p : S25} (hd : In64 d) (hp : P64 p) : impl_ColorOf.f 66 d p.f0 p.f1 = some (colV d p) ∧ spec_ColorOf.f 66 d p.f0 p.f1 = some (colV d p) ∧ -1 ≤ colV d p ∧ colV d p ≤ 2 := by
  obtain ⟨r, h1, h2, h3⟩ := color_f d p.f0 p.f1 ⟨hd.lo, hd.hi⟩ ⟨hp.1.lo, hp.1.hi⟩ ⟨hp.2.lo, hp.2.hi⟩
  have e : colV d p = r := by unfold colV; rw [h2]; rfl
  rw [e]
  exact ⟨h2, h1, h3⟩
theorem col_impl {d : Int} {p : S25} (hd : In64 d) (hp : P64 p) : Ev (fun k => impl_ColorOf.f k d p.f0 p.f1) (colV d p) := Ev.of (fun k => impl_ColorOf.mono _ _ _ k) (colV_spec hd hp).1
theorem col_spec {d : Int} {p : S25} (hd : In64 d) (hp : P64 p) : Ev (fun k => spec_ColorOf.f k d p.f0 p.f1) (colV d p) := Ev.of (fun k => spec_ColorOf.mono _ _ _ k) (colV_spec hd hp).2.1
theorem col_l14 {d : Int} {p : S25} (hd : In64 d) (hp : P64 p) (h : 0 ≤ colV d p) : Ev (fun k => spec_l14Color.f k d p.f0 p.f1) (colV d p) := by
  refine Ev.of (fun k => spec_l14Color.mono _ _ _ k) (k := 66) ?_
  have e := (colV_spec hd hp).2.1
  unfold spec_ColorOf.f at e
  rw [l01In_f, Option.bind_some] at e
  by_cases c1 : (1 : Int) ≤ d ∧ d ≤ 40
  · rw [if_pos (decide_eq_true c1), l01In_f, Option.bind_some] at e
    by_cases c2 : (0 : Int) ≤ p.f0 ∧ p.f0 ≤ d
    · rw [if_pos (decide_eq_true c2), l01In_f, Option.bind_some] at e
      by_cases c3 : (0 : Int) ≤ p.f1 ∧ p.f1 ≤ d
      · rw [if_pos (decide_eq_true c3)] at e
        obtain ⟨r, h1, h2⟩ := Option.bind_eq_some_iff.mp e
        rw [h1, h2]
      · rw [if_neg (by simpa using c3)] at e
        have := Option.some.inj e; omega
    · rw [if_neg (by simpa using c2)] at e
      have := Option.some.inj e; omega
  · rw [if_neg (by simpa using c1)] at e
    have := Option.some.inj e; omega
def colsB (d : Int) (l : List S25) : Bool := l.all fun p => decide (0 ≤ colV d p)
theorem has_l (d : Int) (hd : In64 d) (l : List S25) (hl : l.length ≤ 1048576) (hp : ∀ p ∈ l, P64 p) (n : Nat) : ∀ i : Nat, l.length - i = n → i ≤ l.length → Ev (fun k => spec_l14Has.l0 k d l (l.length : Int) (i : Int)) (colsB d (l.drop i)) := by
  unfold colsB
  induction n with
  | zero =>
    intro i hn hi
    rw [List.drop_of_length_le (by omega), List.all_nil]
    refine Ev.step (f := fun _ => some true) (fun k => ?_) (Ev.now _)
    rw [spec_l14Has.l0, if_neg (by omega)]
  | succ n ih =>
    intro i hn hi
    have hlt : i < l.length := by omega
    rw [drop_all _ hlt]
    have H := ih (i + 1) (by omega) (by omega)
    refine Ev.step (f := fun k => (spec_ColorOf.f k d l[i].f0 l[i].f1).bind fun t => if t < 0 then some false else spec_l14Has.l0 k d l (l.length : Int) ((i + 1 : Nat) : Int)) (fun k => ?_) (Ev.bind (col_spec hd (hp _ (List.getElem_mem hlt))) ?_)
    · rw [spec_l14Has.l0, if_pos (by omega), if_pos (by omega), if_pos (by omega), rdT_nat l i hlt, w1 (by omega)]
    · by_cases c : 0 ≤ colV d l[i]
      · simp only [if_neg (show ¬ colV d l[i] < 0 by omega)]
        rw [decide_eq_true c, Bool.true_and]
        exact H
      · simp only [if_pos (show colV d l[i] < 0 by omega)]
        rw [decide_eq_false c, Bool.false_and]
        exact Ev.now _
theorem spec_has (d : Int) (hd : In64 d) (l : List S25) (hl : l.length ≤ 1048576) (hp : ∀ p ∈ l, P64 p) : Ev (fun k => spec_l14Has.f k d l) (colsB d l) := by
  have := has_l d hd l hl hp l.length 0 (by omega) (by omega)
  rw [List.drop_zero] at this
  exact this
theorem acAll_ev (d : Int) (hd : In64 d) : ∀ l : List S25, (∀ p ∈ l, P64 p) → Ev (fun k => acAll (fun p => impl_ColorOf.f k d p.f0 p.f1) l) (l.map (colV d))
  | [], _ => Ev.now _
  | p :: l, hp => Ev.bind (col_impl hd (hp p (by simp))) (Ev.bind (acAll_ev d hd l (fun q hq => hp q (by simp [hq]))) (Ev.now _))
theorem impl_has (d : Int) (hd : In64 d) (l : List S25) (hp : ∀ p ∈ l, P64 p) : Ev (fun k => impl_areColored.f k d l) (colsB d l) := by
  unfold impl_areColored.f
  refine Ev.bind (acAll_ev d hd l hp) ?_
  have e : (!(l.map (colV d)).any fun c => decide (c < 0)) = colsB d l := by
    unfold colsB
    rw [List.any_map, Bool.eq_iff_iff]
    simp only [Bool.not_eq_true', List.any_eq_false, List.all_eq_true, Function.comp, decide_eq_true_eq]
    exact ⟨fun h p hp => by have := h p hp; omega, fun h p hp => by have := h p hp; omega⟩
  rw [e]
  exact Ev.now _

/-! the law's copies of a row of points -/
def cpy (l : List S73) : List S25 := l.map fun x => ⟨x.f0, x.f1⟩
theorem cpy_len (l : List S73) : (cpy l).length = l.length := by simp [cpy]
theorem rdLAW_nat (l : List S73) (i : Nat) (h : i < l.length) : rd_T73 l (i : Int) = l[i] := by simp [rd_T73, List.getD_eq_getElem?_getD, h]
theorem toPointS_l (l : List S73) (hl : l.length ≤ 1048576) (d : Nat) : ∀ (i : Nat) (x : List S25), l.length - i = d → i ≤ l.length → x.length = l.length → x.take i = (cpy l).take i → Ev (fun k => laws_toPointS.l0 k l x (i : Int)) (cpy l) := by
  induction d with
  | zero =>
    intro i x hd hi hx ht
    rw [List.take_of_length_le (by omega), List.take_of_length_le (by rw [cpy_len]; omega)] at ht
    rw [← ht]
    refine Ev.step (f := fun _ => some x) (fun k => ?_) (Ev.now _)
    rw [laws_toPointS.l0, if_neg (by omega)]
  | succ d ih =>
    intro i x hd hi hx ht
    have hlt : i < l.length := by omega
    have H := ih (i + 1) (x.set i ⟨l[i].f0, l[i].f1⟩) (by omega) (by omega) (by rw [List.length_set]; exact hx) (by
      rw [List.take_add_one, List.take_add_one, List.take_set_of_le (Nat.le_refl _), ht, List.getElem?_set_self (by omega)]
      simp [cpy, hlt])
    refine Ev.step (fun k => ?_) H
    rw [laws_toPointS.l0, if_pos (by omega), if_pos (by omega), rdLAW_nat l i hlt, laws_toPoint.f, Option.bind_some, if_pos (by omega), Int.toNat_natCast, w1 (by omega)]
theorem toPointS_f (l : List S73) (hl : l.length ≤ 1048576) : Ev (fun k => laws_toPointS.f k l) (cpy l) := by
  unfold laws_toPointS.f
  simp only [if_pos (show (0 : Int) ≤ (l.length : Int) by omega), Int.toNat_natCast, if_pos (show l.length ≤ 17592186044416 by omega)]
  exact toPointS_l l hl l.length 0 _ (by omega) (by omega) (by simp) (by simp)
theorem eqPS_l (l : List S25) (hl : l.length ≤ 1048576) (d : Nat) : ∀ i : Nat, l.length - i = d → i ≤ l.length → Ev (fun k => laws_eqPointS.l0 k l l (i : Int)) true := by
  induction d with
  | zero =>
    intro i hd hi
    refine Ev.step (f := fun _ => some true) (fun k => ?_) (Ev.now _)
    rw [laws_eqPointS.l0, if_neg (by omega)]
  | succ d ih =>
    intro i hd hi
    refine Ev.step (fun k => ?_) (ih (i + 1) (by omega) (by omega))
    rw [laws_eqPointS.l0, if_pos (by omega), if_pos (by omega), if_pos (by omega), laws_eqPoint.f, if_pos rfl, if_pos rfl, Option.bind_some, if_pos rfl, w1 (by omega)]
theorem eqPS_f (l : List S25) (hl : l.length ≤ 1048576) : Ev (fun k => laws_eqPointS.f k l l) true := by
  unfold laws_eqPointS.f
  simp only [if_true]
  exact eqPS_l l hl l.length 0 (by omega) (by omega)
theorem szPS_f (l : List S73) (hl : l.length ≤ 2305843009213693952) : ∃ s, laws_szPointS.f l 1048576 = some s ∧ (s < 0 ∨ (s = 1048576 - (l.length : Int) ∧ l.length ≤ 1048576)) := by
  unfold laws_szPointS.f
  rw [w64 (x := 1048576 - (l.length : Int)) (by omega) (by omega)]
  by_cases c : 1048576 - (l.length : Int) < 0
  · rw [if_pos c]; exact ⟨-1, rfl, .inl (by omega)⟩
  · rw [if_neg c]; exact ⟨_, rfl, .inr ⟨rfl, by omega⟩⟩
theorem P64_cpy {l : List S73} (hw : ∀ x ∈ l, (Lit.int .i64 x.f0).wf = true ∧ (Lit.int .i64 x.f1).wf = true) : ∀ p ∈ cpy l, P64 p := by
  intro p hp
  obtain ⟨x, hx, rfl⟩ := List.mem_map.mp hp
  exact ⟨in64 (hw x hx).1, in64 (hw x hx).2⟩

def sideB (d : Int) (l : List S25) (i : Nat) : Bool := decide (colV d (pt l i) = 0 ∧ colV d (pt l (nx l.length i)) = 1) || decide (colV d (pt l i) = 1 ∧ colV d (pt l (nx l.length i)) = 0)
def sidesN (d : Int) (l : List S25) : Nat → Nat → Int → Int
  | 0, _, c => c
  | m + 1, i, c => sidesN d l m (i + 1) (if sideB d l i = true then c + 1 else c)
theorem pt_col {d : Int} {l : List S25} (hc : colsB d l = true) {i : Nat} (hi : i < l.length) : 0 ≤ colV d (pt l i) := by
  have := List.all_eq_true.mp hc _ (List.getElem_mem hi)
  unfold pt
  rw [rdT_nat l i hi]
  exact of_decide_eq_true this
theorem pt_64 {l : List S25} (hp : ∀ p ∈ l, P64 p) {i : Nat} (hi : i < l.length) : P64 (pt l i) := by
  unfold pt
  rw [rdT_nat l i hi]
  exact hp _ (List.getElem_mem hi)
theorem spec_sides_l (d : Int) (hd : In64 d) (l : List S25) (h3 : 3 ≤ l.length ∧ l.length ≤ 10) (hp : ∀ p ∈ l, P64 p) (hc : colsB d l = true) (n : Nat) : ∀ (i : Nat) (c : Int), l.length - i = n → i ≤ l.length → 0 ≤ c → c ≤ i → Ev (fun k => spec_RainbowSides.l0 k d l c l (l.length : Int) (i : Int)) (sidesN d l n i c) := by
  induction n with
  | zero =>
    intro i c hn hi h0 h1
    refine Ev.step (f := fun _ => some c) (fun k => ?_) (Ev.now _)
    rw [spec_RainbowSides.l0, if_neg (by omega)]
  | succ n ih =>
    intro i c hn hi h0 h1
    have hlt : i < l.length := by omega
    have hnx := nx_lt (n := l.length) (i := i) (by omega)
    have a1 := pt_col hc hlt
    have a2 := pt_col hc hnx
    have b1 := (colV_spec hd (pt_64 hp hlt)).2.2
    have b2 := (colV_spec hd (pt_64 hp hnx)).2.2
    refine Ev.step (f := fun k => (spec_l14Color.f k d (pt l i).f0 (pt l i).f1).bind fun t => (spec_l14Color.f k d (pt l (nx l.length i)).f0 (pt l (nx l.length i)).f1).bind fun u => if wrap64 (t + u) = 1 then (if t = u then spec_RainbowSides.l0 k d l c l (l.length : Int) ((i + 1 : Nat) : Int) else spec_RainbowSides.l0 k d l (wrap64 (c + 1)) l (l.length : Int) ((i + 1 : Nat) : Int)) else spec_RainbowSides.l0 k d l c l (l.length : Int) ((i + 1 : Nat) : Int)) (fun k => ?_) (Ev.bind (col_l14 hd (pt_64 hp hlt) a1) (Ev.bind (col_l14 hd (pt_64 hp hnx) a2) ?_))
    · rw [spec_RainbowSides.l0, if_pos (by omega), if_pos (by omega), if_pos (by omega)]
      simp only [tm2, if_neg (show ¬ (l.length : Int) = 0 by omega), if_pos (show (0 : Int) ≤ ((nx l.length i : Nat) : Int) by omega), if_pos (show ((nx l.length i : Nat) : Int) < (l.length : Int) by omega), w1 (show i ≤ 140737488355328 by omega)]
      rfl
    · rw [w64 (x := colV d (pt l i) + colV d (pt l (nx l.length i))) (by omega) (by omega), w64 (x := c + 1) (by omega) (by omega), sidesN]
      unfold sideB
      by_cases e : (colV d (pt l i) = 0 ∧ colV d (pt l (nx l.length i)) = 1) ∨ (colV d (pt l i) = 1 ∧ colV d (pt l (nx l.length i)) = 0)
      · rw [if_pos (by simpa using e)]
        simp only [if_pos (show colV d (pt l i) + colV d (pt l (nx l.length i)) = 1 by omega), if_neg (show ¬ colV d (pt l i) = colV d (pt l (nx l.length i)) by omega)]
        exact ih (i + 1) (c + 1) (by omega) (by omega) (by omega) (by omega)
      · rw [if_neg (by simpa using e)]
        have H := ih (i + 1) c (by omega) (by omega) (by omega) (by omega)
        simp only [if_neg (show ¬ colV d (pt l i) + colV d (pt l (nx l.length i)) = 1 by omega)]
        exact H
theorem impl_sides_l (d : Int) (hd : In64 d) (l : List S25) (h3 : 3 ≤ l.length ∧ l.length ≤ 10) (hp : ∀ p ∈ l, P64 p) (hc : colsB d l = true) (n : Nat) : ∀ (i : Nat) (c : Int), l.length - i = n → i ≤ l.length → 0 ≤ c → c ≤ i → Ev (fun k => impl_RainbowSides.l0 k d l c l (l.length : Int) (i : Int)) (sidesN d l n i c) := by
  induction n with
  | zero =>
    intro i c hn hi h0 h1
    refine Ev.step (f := fun _ => some c) (fun k => ?_) (Ev.now _)
    rw [impl_RainbowSides.l0, if_neg (by omega)]
  | succ n ih =>
    intro i c hn hi h0 h1
    have hlt : i < l.length := by omega
    have hnx := nx_lt (n := l.length) (i := i) (by omega)
    have a1 := pt_col hc hlt
    have a2 := pt_col hc hnx
    have b1 := (colV_spec hd (pt_64 hp hlt)).2.2
    have b2 := (colV_spec hd (pt_64 hp hnx)).2.2
    refine Ev.step (f := fun k => (impl_ColorOf.f k d (pt l i).f0 (pt l i).f1).bind fun t => (impl_ColorOf.f k d (pt l (nx l.length i)).f0 (pt l (nx l.length i)).f1).bind fun u => if mn t u = 0 then (if mx t u = 1 then impl_RainbowSides.l0 k d l (wrap64 (c + 1)) l (l.length : Int) ((i + 1 : Nat) : Int) else impl_RainbowSides.l0 k d l c l (l.length : Int) ((i + 1 : Nat) : Int)) else impl_RainbowSides.l0 k d l c l (l.length : Int) ((i + 1 : Nat) : Int)) (fun k => ?_) (Ev.bind (col_impl hd (pt_64 hp hlt)) (Ev.bind (col_impl hd (pt_64 hp hnx)) ?_))
    · rw [impl_RainbowSides.l0, if_pos (by omega), if_pos (by omega), if_pos (by omega)]
      simp only [tm2, if_neg (show ¬ (l.length : Int) = 0 by omega), if_pos (show (0 : Int) ≤ ((nx l.length i : Nat) : Int) by omega), if_pos (show ((nx l.length i : Nat) : Int) < (l.length : Int) by omega), w1 (show i ≤ 140737488355328 by omega)]
      rfl
    · rw [w64 (x := c + 1) (by omega) (by omega), sidesN]
      unfold sideB
      have hmn : mn (colV d (pt l i)) (colV d (pt l (nx l.length i))) = if colV d (pt l (nx l.length i)) < colV d (pt l i) then colV d (pt l (nx l.length i)) else colV d (pt l i) := rfl
      have hmx : mx (colV d (pt l i)) (colV d (pt l (nx l.length i))) = if colV d (pt l i) < colV d (pt l (nx l.length i)) then colV d (pt l (nx l.length i)) else colV d (pt l i) := rfl
      by_cases e : (colV d (pt l i) = 0 ∧ colV d (pt l (nx l.length i)) = 1) ∨ (colV d (pt l i) = 1 ∧ colV d (pt l (nx l.length i)) = 0)
      · rw [if_pos (by simpa using e)]
        simp only [if_pos (show mn (colV d (pt l i)) (colV d (pt l (nx l.length i))) = 0 by rw [hmn]; split <;> omega), if_pos (show mx (colV d (pt l i)) (colV d (pt l (nx l.length i))) = 1 by rw [hmx]; split <;> omega)]
        exact ih (i + 1) (c + 1) (by omega) (by omega) (by omega) (by omega)
      · rw [if_neg (by simpa using e)]
        have H := ih (i + 1) c (by omega) (by omega) (by omega) (by omega)
        by_cases f : mn (colV d (pt l i)) (colV d (pt l (nx l.length i))) = 0
        · have g : ¬ mx (colV d (pt l i)) (colV d (pt l (nx l.length i))) = 1 := by
            rw [hmn] at f
            rw [hmx]
            split at f <;> split <;> omega
          simp only [if_pos f, if_neg g]
          exact H
        · simp only [if_neg f]
          exact H
def rainV (d : Int) (l : List S25) : Int := if (polyB l && colsB d l) = true then sidesN d l l.length 0 0 else -1
theorem polyB_len {l : List S25} (h : polyB l = true) : 3 ≤ l.length ∧ l.length ≤ 10 := by
  unfold polyB at h
  rw [Bool.and_eq_true] at h
  exact of_decide_eq_true h.1
theorem spec_rain (d : Int) (hd : In64 d) (l : List S25) (hl : l.length ≤ 1048576) (hp : ∀ p ∈ l, P64 p) : Ev (fun k => spec_RainbowSides.f k d l) (rainV d l) := by
  unfold spec_RainbowSides.f rainV
  refine Ev.bind (spec_poly l) ?_
  cases hb : polyB l with
  | false =>
    simp only [Bool.false_and, Bool.false_eq_true, if_false]
    refine Ev.step (f := fun _ => some (-1)) (fun k => ?_) (Ev.now _)
    rw [spec_RainbowSides.j0, if_pos (by rfl)]
  | true =>
    simp only [Bool.true_and, if_true]
    refine Ev.bind (spec_has d hd l hl hp) ?_
    cases hc : colsB d l with
    | false =>
      simp only [Bool.false_eq_true, if_false]
      refine Ev.step (f := fun _ => some (-1)) (fun k => ?_) (Ev.now _)
      rw [spec_RainbowSides.j0, if_pos (by rfl)]
    | true =>
      simp only [if_true]
      refine Ev.step (fun k => ?_) (spec_sides_l d hd l (polyB_len hb) hp hc l.length 0 0 (by omega) (by omega) (by omega) (by omega))
      rw [spec_RainbowSides.j0, if_neg (by simp)]
      rfl
theorem impl_rain (d : Int) (hd : In64 d) (l : List S25) (hl : l.length ≤ 1048576) (hp : ∀ p ∈ l, P64 p) : Ev (fun k => impl_RainbowSides.f k d l) (rainV d l) := by
  unfold impl_RainbowSides.f rainV
  refine Ev.bind (impl_poly l hl) ?_
  cases hb : polyB l with
  | false =>
    simp only [Bool.false_and, Bool.false_eq_true, if_false]
    refine Ev.step (f := fun _ => some (-1)) (fun k => ?_) (Ev.now _)
    rw [impl_RainbowSides.j0, if_pos (by rfl)]
  | true =>
    simp only [Bool.true_and, if_true]
    refine Ev.bind (impl_has d hd l hp) ?_
    cases hc : colsB d l with
    | false =>
      simp only [Bool.false_eq_true, if_false]
      refine Ev.step (f := fun _ => some (-1)) (fun k => ?_) (Ev.now _)
      rw [impl_RainbowSides.j0, if_pos (by rfl)]
    | true =>
      simp only [if_true]
      refine Ev.step (fun k => ?_) (impl_sides_l d hd l (polyB_len hb) hp hc l.length 0 0 (by omega) (by omega) (by omega) (by omega))
      rw [impl_RainbowSides.j0, if_neg (by simp)]
      rfl
theorem FnExactRainbowSides : laws_FnExactRainbowSides.Pure := by
  intro d l hd _ hy hw
  obtain ⟨s, hs, hsz⟩ := szPS_f l (by omega)
  have hp := P64_cpy hw
  refine Ev.rounds (g := fun k => laws_FnExactRainbowSides.f k d l) ?_
  unfold laws_FnExactRainbowSides.f
  rw [hs]
  simp only [Option.bind_some]
  rcases hsz with h | ⟨h, hl⟩
  · simp only [if_pos h]
    exact Ev.now _
  · simp only [if_neg (show ¬ s < 0 by omega)]
    have T := toPointS_f l hl
    have hcl := cpy_len l
    refine Ev.bind T (Ev.bind (spec_rain d (in64 hd) (cpy l) (by omega) hp) (Ev.bind T (Ev.bind (impl_rain d (in64 hd) (cpy l) (by omega) hp) ?_)))
    simp only [if_true]
    refine Ev.bind T (Ev.bind (eqPS_f (cpy l) (by omega)) ?_)
    simp only [if_true]
    exact Ev.now _

end Go.Proofs.Ytihnhpohbpfkmaa.Pure
