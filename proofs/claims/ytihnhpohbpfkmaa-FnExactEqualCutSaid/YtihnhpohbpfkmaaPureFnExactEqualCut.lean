/- EqualCut: both texts test the triangulation, the corners and the areas alike. -/
import Derived.Test.YtihnhpohbpfkmaaXFnExactEqualCutx15
namespace Go.Proofs.Ytihnhpohbpfkmaa.Pure
open Go.RowKit Go.WideShapes Go.Proofs.Ytihnhpohbpfkmaa.XFnExactEqualCut Go.Proofs.YtihnhpohbpfkmaaW.PrintWords Go.Proofs.YtihnhpohbpfkmaaW.PrintLast
set_option linter.unusedVariables false
set_option linter.unusedSimpArgs false
theorem w64 {x : Int} (h0 : -9223372036854775808 ≤ x) (h1 : x ≤ 9223372036854775807) : wrap64 x = x := by
 unfold wrap64
 omega
theorem succ_of {d k : Nat} (h : d < k) : ∃ m, k = m + 1 := ⟨k - 1, by omega⟩
theorem rd_get (l : List Int) (i : Nat) (h : i < l.length) : rd l (i : Int) = l[i] := by simp [rd, List.getD_eq_getElem?_getD, h]
theorem w1 {i : Nat} (h : i ≤ 140737488355328) : wrap64 ((i : Int) + 1) = ((i + 1 : Nat) : Int) := by
 unfold wrap64
 omega
theorem lt_t {i n : Nat} (h : i < n) : ((i : Int) < (n : Int)) = True := eq_true (by omega)
theorem lt_f {i n : Nat} (h : n ≤ i) : ((i : Int) < (n : Int)) = False := eq_false (by omega)
theorem nn_t (i : Nat) : (0 ≤ (i : Int)) = True := eq_true (by omega)
theorem toIntS_l (l : List Int) (hl : l.length ≤ 35184372088832) (d : Nat) : ∀ (k : Nat) (ys : List Int) (i : Nat), l.length - i = d → i ≤ l.length → ys.length = l.length → ys.take i = l.take i → d < k → laws_toIntS.l0 k l ys (i : Int) = some l := by
 induction d with
 | zero =>
  intro k ys i hd hi hy ht hk
  obtain ⟨k, rfl⟩ := succ_of hk; simp only [laws_toIntS.l0]; rw [if_neg (by omega)]; have : i = l.length := by omega
  subst this
  rw [List.take_length, ← hy, List.take_length] at ht; rw [ht]
 | succ d ih =>
  intro k ys i hd hi hy ht hk
  obtain ⟨k, rfl⟩ := succ_of hk; simp only [laws_toIntS.l0]; rw [if_pos (by omega), if_pos (by omega), if_pos (by omega), w1 (by omega), rd_get l i (by omega)]; refine ih k _ (i + 1) (by omega) (by omega) (by simp [hy]) ?_ (by omega); rw [Int.toNat_natCast, List.take_add_one, List.take_add_one, List.take_set_of_le (Nat.le_refl _), ht]; simp [hy, show i < l.length by omega]
theorem toIntS (l : List Int) (hl : l.length ≤ 35184372088832) (k : Nat) (hk : l.length < k) : laws_toIntS.f k l = some l := by
 unfold laws_toIntS.f
 rw [if_pos (by omega), if_pos (by omega)]
 exact toIntS_l l hl l.length k _ 0 (by omega) (by omega) (by simp) rfl hk
theorem eqIntS_l (l m : List Int) (hl : l.length ≤ 35184372088832) (he : l.length = m.length) (d : Nat) : ∀ (k : Nat) (i : Nat), l.length - i = d → i ≤ l.length → d < k → laws_eqIntS.l0 k l m (i : Int) = some (decide (l.drop i = m.drop i)) := by
 induction d with
 | zero =>
  intro k i hd hi hk
  obtain ⟨k, rfl⟩ := succ_of hk; simp only [laws_eqIntS.l0]; rw [if_neg (by omega), List.drop_of_length_le (by omega), List.drop_of_length_le (by omega)]; simp
 | succ d ih =>
  intro k i hd hi hk
  obtain ⟨k, rfl⟩ := succ_of hk; simp only [laws_eqIntS.l0]; rw [if_pos (by omega), if_pos (by omega), if_pos (by omega), w1 (by omega), rd_get l i (by omega), rd_get m i (by omega), ih k (i + 1) (by omega) (by omega) (by omega)]; have h1 := List.drop_eq_getElem_cons (show i < l.length by omega); have h2 := List.drop_eq_getElem_cons (show i < m.length by omega); by_cases e : l[i]'(by omega) = m[i]'(by omega)
  ·rw [if_pos e, h1, h2]
   simp only [List.cons.injEq, e, true_and]
  ·rw [if_neg e, h1, h2]
   simp only [List.cons.injEq, e, false_and, decide_false]
theorem eqIntS (l m : List Int) (hl : l.length ≤ 35184372088832) (k : Nat) (hk : l.length < k) : laws_eqIntS.f k l m = some (decide (l = m)) := by
 unfold laws_eqIntS.f
 by_cases e : l.length = m.length
 ·rw [if_pos (by omega)]
  have := eqIntS_l l m hl e l.length k 0 (by omega) (by omega) hk; simpa using this
 ·rw [if_neg (by omega)]
  have : l ≠ m := fun h => e (by rw [h])
  simp [this]

theorem rdL_get (l : List (List Int)) (i : Nat) (h : i < l.length) : rd_L2 l (i : Int) = l[i] := by simp [rd_L2, List.getD_eq_getElem?_getD, h]
theorem maxLen_le {n : Nat} (h : n ≤ maxLen) : n ≤ 9223372036854775807 := by unfold maxLen at h; exact h
theorem szS_f (x : List Int) (hx : x.length ≤ maxLen) (left : Int) (h0 : 0 ≤ left) (h1 : left ≤ 1048576) : laws_szIntS.f x left = some (if (x.length : Int) ≤ left then left - (x.length : Int) else -1) := by
 have := maxLen_le hx
 unfold laws_szIntS.f
 rw [w64 (by omega) (by omega)]
 by_cases h : (x.length : Int) ≤ left
 ·rw [if_neg (by omega), if_pos h]
 ·rw [if_pos (by omega), if_neg h]
theorem szSS_l (l : List (List Int)) (hl : l.length ≤ 1048576) (hx : ∀ x ∈ l, x.length ≤ maxLen) (d : Nat) : ∀ (k i : Nat) (left : Int), l.length - i = d → i ≤ l.length → d < k → 0 ≤ left → left ≤ 1048576 → ∃ r, laws_szIntSS.l0 k l left (i : Int) = some r ∧ (0 ≤ r → ∀ (j : Nat) (hj : j < l.length), i ≤ j → (l[j]).length ≤ 1048576) := by
 induction d with
 | zero =>
  intro k i left hd hi hk h0 h1
  obtain ⟨k, rfl⟩ := succ_of hk; refine ⟨left, ?_, fun _ j hj hij => by omega⟩; simp only [laws_szIntSS.l0, lt_f (show l.length ≤ i by omega), if_false]
 | succ d ih =>
  intro k i left hd hi hk h0 h1
  obtain ⟨k, rfl⟩ := succ_of hk; have hlt : i < l.length := by omega
  simp only [laws_szIntSS.l0, lt_t hlt, nn_t, if_true, rdL_get l i hlt, szS_f _ (hx _ (List.getElem_mem hlt)) left h0 h1, Option.bind_some, w1 (show i ≤ 140737488355328 by omega)]; by_cases h : ((l[i]).length : Int) ≤ left
  ·rw [if_pos h, if_neg (by omega)]
   obtain ⟨r, h2, h3⟩ := ih k (i + 1) (left - ((l[i]).length : Int)) (by omega) (by omega) (by omega) (by omega) (by omega); refine ⟨r, h2, fun hr j hj hij => ?_⟩; by_cases e : j = i
   ·subst e; omega
   ·exact h3 hr j hj (by omega)
  ·rw [if_neg h]
   exact ⟨-1, by simp, fun h => by omega⟩
theorem toIntSS_l (l : List (List Int)) (hl : l.length ≤ 1048576) (hx : ∀ x ∈ l, x.length ≤ 1048576) (d : Nat) : ∀ (k : Nat) (ys : List (List Int)) (i : Nat), l.length - i = d → i ≤ l.length → ys.length = l.length → ys.take i = l.take i → d + 1048577 < k → laws_toIntSS.l0 k l ys (i : Int) = some l := by
 induction d with
 | zero =>
  intro k ys i hd hi hy ht hk
  obtain ⟨k, rfl⟩ := succ_of (show 0 < k by omega); simp only [laws_toIntSS.l0, lt_f (show l.length ≤ i by omega), if_false]; have : i = l.length := by omega
  subst this
  rw [List.take_length, ← hy, List.take_length] at ht; rw [ht]
 | succ d ih =>
  intro k ys i hd hi hy ht hk
  obtain ⟨k, rfl⟩ := succ_of (show 0 < k by omega); have hlt : i < l.length := by omega
  have hx1 := hx _ (List.getElem_mem hlt); simp only [laws_toIntSS.l0, lt_t hlt, nn_t, if_true, rdL_get l i hlt, toIntS _ (show (l[i]).length ≤ 35184372088832 by omega) k (by omega), Option.bind_some, lt_t (show i < ys.length by omega), w1 (show i ≤ 140737488355328 by omega)]; refine ih k _ (i + 1) (by omega) (by omega) (by simp [hy]) ?_ (by omega); rw [Int.toNat_natCast, List.take_add_one, List.take_add_one, List.take_set_of_le (Nat.le_refl _), ht]; simp [hy, hlt]
theorem toIntSS (l : List (List Int)) (hl : l.length ≤ 1048576) (hx : ∀ x ∈ l, x.length ≤ 1048576) (k : Nat) (hk : l.length + 1048577 < k) : laws_toIntSS.f k l = some l := by
 unfold laws_toIntSS.f
 rw [if_pos (by omega), if_pos (by omega)]
 exact toIntSS_l l hl hx l.length k _ 0 (by omega) (by omega) (by simp) rfl hk
theorem eqIntSS_self_l (l : List (List Int)) (hl : l.length ≤ 1048576) (hx : ∀ x ∈ l, x.length ≤ 1048576) (d : Nat) : ∀ (k i : Nat), l.length - i = d → i ≤ l.length → d + 1048577 < k → laws_eqIntSS.l0 k l l (i : Int) = some true := by
 induction d with
 | zero =>
  intro k i hd hi hk
  obtain ⟨k, rfl⟩ := succ_of (show 0 < k by omega); simp only [laws_eqIntSS.l0, lt_f (show l.length ≤ i by omega), if_false]
 | succ d ih =>
  intro k i hd hi hk
  obtain ⟨k, rfl⟩ := succ_of (show 0 < k by omega); have hlt : i < l.length := by omega
  have hx1 := hx _ (List.getElem_mem hlt); simp only [laws_eqIntSS.l0, lt_t hlt, nn_t, if_true, rdL_get l i hlt, eqIntS _ _ (show (l[i]).length ≤ 35184372088832 by omega) k (show (l[i]).length < k by omega), Option.bind_some, w1 (show i ≤ 140737488355328 by omega), decide_true]; exact ih k (i + 1) (by omega) (by omega) (by omega)
theorem eqIntSS_self (l : List (List Int)) (hl : l.length ≤ 1048576) (hx : ∀ x ∈ l, x.length ≤ 1048576) (k : Nat) (hk : l.length + 1048577 < k) : laws_eqIntSS.f k l l = some true := by
 unfold laws_eqIntSS.f
 rw [if_pos rfl]
 exact eqIntSS_self_l l hl hx l.length k 0 (by omega) (by omega) hk

theorem szSS_any (l : List (List Int)) (hm : l.length ≤ maxLen) (hx : ∀ x ∈ l, x.length ≤ maxLen) (left : Int) (h0 : 0 ≤ left) (h1 : left ≤ 1048576) : ∃ r, Ev (fun k => laws_szIntSS.f k l left) r ∧ (0 ≤ r → l.length ≤ 1048576 ∧ ∀ x ∈ l, x.length ≤ 1048576) := by
 have hmm := maxLen_le hm
 unfold laws_szIntSS.f
 rw [w64 (x := left - (l.length : Int)) (by omega) (by omega)]
 by_cases c : left - (l.length : Int) < 0
 ·simp only [if_pos c]
  exact ⟨-1, Ev.now _, fun h => by omega⟩
 ·simp only [if_neg c]
  have hl : l.length ≤ 1048576 := by omega
  obtain ⟨r, hr⟩ := szSS_l l hl hx l.length (l.length + 1) 0 (left - (l.length : Int)) (by omega) (by omega) (by omega) (by omega) (by omega); refine ⟨r, Ev.of (fun k => laws_szIntSS.mono_l k _ _ _) hr.1, fun h => ⟨hl, fun x hx' => ?_⟩⟩; obtain ⟨j, hj, rfl⟩ := List.getElem_of_mem hx'; exact hr.2 h j hj (by omega)
theorem ev_toSS (l : List (List Int)) (hl : l.length ≤ 1048576) (hx : ∀ x ∈ l, x.length ≤ 1048576) : Ev (fun k => laws_toIntSS.f k l) l := ⟨l.length + 1048578, fun k hk => toIntSS l hl hx k (by omega)⟩
theorem ev_eqSS (l : List (List Int)) (hl : l.length ≤ 1048576) (hx : ∀ x ∈ l, x.length ≤ 1048576) : Ev (fun k => laws_eqIntSS.f k l l) true := ⟨l.length + 1048578, fun k hk => eqIntSS_self l hl hx k (by omega)⟩

theorem within_f (a b c : Int) : impl_within.f a b c = some (decide (b ≤ a ∧ a ≤ c)) := by
 unfold impl_within.f
 by_cases h : a ≥ b
 ·rw [if_pos h]; simp [show b ≤ a from h]
 ·rw [if_neg h]; simp [show ¬ b ≤ a from h]
theorem l01In_f (a b c : Int) : spec_l01In.f a b c = some (decide (b ≤ a ∧ a ≤ c)) := by
 unfold spec_l01In.f
 by_cases h : a ≥ b
 ·rw [if_pos h]; simp [show b ≤ a from h]
 ·rw [if_neg h]; simp [show ¬ b ≤ a from h]

def crw (a b p : S25) : Int := wrap64 ((wrap64 ((wrap64 (b.f0 - a.f0)) * (wrap64 (p.f1 - a.f1)))) - (wrap64 ((wrap64 (b.f1 - a.f1)) * (wrap64 (p.f0 - a.f0)))))
def onB (a b p : S25) : Bool := decide (crw a b p = 0) && (decide (mn a.f0 b.f0 ≤ p.f0 ∧ p.f0 ≤ mx a.f0 b.f0) && decide (mn a.f1 b.f1 ≤ p.f1 ∧ p.f1 ≤ mx a.f1 b.f1))
def sgn (x : Int) : Int := if x > 0 then 1 else if x < 0 then -1 else 0
theorem cross_f (a b p : S25) : impl_cross.f a.f0 a.f1 b.f0 b.f1 p.f0 p.f1 = some (crw a b p) := rfl
theorem s_cross_f (a b p : S25) : spec_l02Cross.f a.f0 a.f1 b.f0 b.f1 p.f0 p.f1 = some (crw a b p) := rfl
theorem on_f (a b p : S25) : impl_isOn.f a.f0 a.f1 b.f0 b.f1 p.f0 p.f1 = some (onB a b p) := by
 unfold impl_isOn.f onB
 simp only [cross_f, Option.bind_some, within_f]
 by_cases h1 : crw a b p = 0
 ·rw [if_pos h1]
  by_cases h2 : mn a.f0 b.f0 ≤ p.f0 ∧ p.f0 ≤ mx a.f0 b.f0
  ·rw [if_pos (decide_eq_true h2)]; simp [h1, h2]
  ·rw [if_neg (by simpa using h2)]; simp [h2]
 ·rw [if_neg h1]; simp [h1]
theorem s_on_f (a b p : S25) : spec_l02On.f a.f0 a.f1 b.f0 b.f1 p.f0 p.f1 = some (onB a b p) := by
 unfold spec_l02On.f onB
 simp only [s_cross_f, Option.bind_some]
 by_cases h1 : crw a b p = 0
 ·rw [if_pos h1]
  by_cases h2 : mn a.f0 b.f0 ≤ p.f0
  ·rw [if_pos h2]
   by_cases h3 : p.f0 ≤ mx a.f0 b.f0
   ·rw [if_pos h3]
    by_cases h4 : mn a.f1 b.f1 ≤ p.f1
    ·rw [if_pos h4]; simp [h1, h2, h3, h4]
    ·rw [if_neg h4]; simp [h4]
   ·rw [if_neg h3]; simp [h3]
  ·rw [if_neg h2]; simp [h2]
 ·rw [if_neg h1]; simp [h1]
theorem sign_f (x : Int) : impl_sign.f x = some (sgn x) := by
 unfold impl_sign.f sgn
 by_cases h : x > 0
 ·rw [if_pos h, if_pos h]
 ·rw [if_neg h, if_neg h]; split <;> rfl
theorem s_sign_f (x : Int) : spec_l02Sign.f x = some (sgn x) := sign_f x
theorem eqPt_iff (p q : S25) : eqPt p q = true ↔ p = q := by
 obtain ⟨a, b⟩ := p
 obtain ⟨c, d⟩ := q
 simp [eqPt]
def crossing (a b c d : S25) : Prop := wrap64 (sgn (crw a b c) * sgn (crw a b d)) < 0 ∧ wrap64 (sgn (crw c d a) * sgn (crw c d b)) < 0
instance (a b c d : S25) : Decidable (crossing a b c d) := by unfold crossing; infer_instance
def shared (a b c d : S25) : List S25 := ([c, d].filter (onB a b)) ++ ([a, b].filter (onB c d))
def addL (xs : List S25) : List S25 → List S25 := fun l => l.foldl addPt xs
def meetV (a b c d : S25) : Int :=
 if (addL [] (shared a b c d)).length > 1 then 3 else if (addL [] (shared a b c d)).length = 1 then 1 else if crossing a b c d then 2 else 0
theorem addPt_mem (xs : List S25) (p q : S25) : q ∈ addPt xs p ↔ q ∈ xs ∨ q = p := by
 unfold addPt
 by_cases h : xs.any (eqPt p) = true
 ·rw [if_pos h]
  obtain ⟨x, hx, e⟩ := List.any_eq_true.mp h; rw [eqPt_iff] at e; subst e
  exact ⟨Or.inl, fun h => h.elim id (fun e => e ▸ hx)⟩
 ·rw [if_neg h]; simp
theorem addPt_nodup (xs : List S25) (p : S25) (h : xs.Nodup) : (addPt xs p).Nodup := by
 unfold addPt
 by_cases c : xs.any (eqPt p) = true
 ·rw [if_pos c]; exact h
 ·rw [if_neg c]
  refine List.nodup_append.mpr ⟨h, by simp, fun x hx y hy e => c (List.any_eq_true.mpr ⟨x, hx, ?_⟩)⟩; rw [eqPt_iff]; simp only [List.mem_singleton] at hy; rw [e, hy]
theorem addL_spec : ∀ (l xs : List S25), xs.Nodup → (addL xs l).Nodup ∧ ∀ q, q ∈ addL xs l ↔ q ∈ xs ∨ q ∈ l
 | [], xs, h => ⟨h, by simp [addL]⟩
 | p :: l, xs, h => by
  obtain ⟨h1, h2⟩ := addL_spec l (addPt xs p) (addPt_nodup xs p h); refine ⟨h1, fun q => ?_⟩; show q ∈ addL (addPt xs p) l ↔ _
  rw [h2, addPt_mem]; simp only [List.mem_cons]; exact ⟨fun h => by rcases h with (h | h) | h <;> simp [h], fun h => by rcases h with h | h | h <;> simp [h]⟩
theorem addL_len (l : List S25) : (addL [] l = [] ↔ l = []) ∧ ((addL [] l).length = 1 ↔ l ≠ [] ∧ ∀ x ∈ l, ∀ y ∈ l, x = y) := by
 obtain ⟨h1, h2⟩ := addL_spec l [] List.nodup_nil
 have h3 : ∀ q, q ∈ addL [] l ↔ q ∈ l := fun q => by rw [h2]; simp
 refine ⟨⟨fun h => ?_, fun h => by subst h; rfl⟩, fun h => ?_, fun ⟨hn, he⟩ => ?_⟩
 ·refine List.eq_nil_iff_forall_not_mem.mpr fun q hq => ?_
  rw [← h3, h] at hq; simp at hq
 ·obtain ⟨z, hz⟩ := List.length_eq_one_iff.mp h
  refine ⟨fun e => ?_, fun x hx y hy => ?_⟩
  ·subst e; simp [addL] at h
  ·rw [← h3, hz] at hx hy
   simp only [List.mem_singleton] at hx hy; rw [hx, hy]
 ·match hL : addL [] l, h1, h3 with
  | [], _, h3 =>
   exact absurd (List.eq_nil_iff_forall_not_mem.mpr fun q hq => by rw [← h3] at hq; simp at hq) hn
  | [z], _, _ => rfl
  | y :: z :: r, h1, h3 =>
   have hy := (h3 y).mp (by simp); have hz := (h3 z).mp (by simp); have e := he y hy z hz; simp [e] at h1
theorem mtAll_f (a b : S25) : ∀ (l xs : List S25), mtAll (impl_meet.on a b) l xs = some (addL xs (l.filter (onB a b)))
 | [], xs => rfl
 | p :: l, xs => by
  show (impl_meet.on a b p).bind _ = _
  rw [show impl_meet.on a b p = some (onB a b p) from on_f a b p, Option.bind_some, mtAll_f a b l]; by_cases h : onB a b p = true
  ·rw [if_pos h, List.filter_cons_of_pos h]; rfl
  ·rw [if_neg h, List.filter_cons_of_neg h]
theorem meet_f (a b c d : S25) : impl_meet.g a b c d = some (meetV a b c d) := by
 unfold impl_meet.g
 rw [mtAll_f, Option.bind_some, mtAll_f, Option.bind_some]
 have e : addL (addL [] ([c, d].filter (onB a b))) ([a, b].filter (onB c d)) = addL [] (shared a b c d) := by
  unfold addL shared
  rw [List.foldl_append]
 rw [e]
 unfold impl_meet.tail meetV
 simp only [cross_f, Option.bind_some, sign_f]
 by_cases h1 : (addL [] (shared a b c d)).length > 1
 ·rw [if_pos (by omega), if_pos h1]
 ·rw [if_neg (by omega), if_neg h1]
  by_cases h2 : (addL [] (shared a b c d)).length = 1
  ·rw [if_pos (by omega), if_pos h2]
  ·rw [if_neg (by omega), if_neg h2]
   by_cases h3 : wrap64 (sgn (crw a b c) * sgn (crw a b d)) < 0
   ·rw [if_pos h3]
    by_cases h4 : wrap64 (sgn (crw c d a) * sgn (crw c d b)) < 0
    ·rw [if_pos h4, if_pos ⟨h3, h4⟩]
    ·rw [if_neg h4, if_neg (fun h => h4 h.2)]
   ·rw [if_neg h3, if_neg (fun h => h3 h.1)]
theorem sgn_zero : sgn 0 = 0 := rfl
theorem crossing_none {a b c d : S25} (h : crossing a b c d) : shared a b c d = [] := by
 obtain ⟨h1, h2⟩ := h
 have f : ∀ {x y : Int}, wrap64 (sgn x * sgn y) < 0 → x ≠ 0 ∧ y ≠ 0 := by
  intro x y h
  refine ⟨fun e => ?_, fun e => ?_⟩
  ·rw [e, sgn_zero, Int.zero_mul] at h; exact absurd h (by unfold wrap64; omega)
  ·rw [e, sgn_zero, Int.mul_zero] at h; exact absurd h (by unfold wrap64; omega)
 obtain ⟨a1, a2⟩ := f h1
 obtain ⟨a3, a4⟩ := f h2
 have g : ∀ {a b p : S25}, crw a b p ≠ 0 → onB a b p = false := by
  intro a b p h
  unfold onB
  rw [decide_eq_false h, Bool.false_and]
 unfold shared
 simp [g a1, g a2, g a3, g a4]
def sharedS (a b c d : S25) : List S25 := ([a, b].filter (onB c d)) ++ ([c, d].filter (onB a b))
theorem sharedS_mem (a b c d : S25) (q : S25) : q ∈ sharedS a b c d ↔ q ∈ shared a b c d := by
 unfold sharedS shared
 simp only [List.mem_append]
 exact Or.comm
theorem rdT_nat (l : List S25) (i : Nat) (h : i < l.length) : rd_T25 l (i : Int) = l[i] := by simp [rd_T25, List.getD_eq_getElem?_getD, h]
theorem s_meet_l2 (xs : List S25) (hx : xs.length ≤ 100) (z : S25) (t : List S25) (hz : xs = z :: t) (d : Nat) : ∀ i : Nat, xs.length - i = d → i ≤ xs.length → Ev (fun k => spec_l02Meet.l2 k xs (xs.length : Int) (i : Int)) (if (xs.drop i).all (fun x => eqPt x z) = true then 1 else 3) := by
 have hr0 : rd_T25 xs 0 = z := by subst hz; rfl
 induction d with
 | zero =>
  intro i hd hi
  have e : xs.drop i = [] := List.drop_of_length_le (by omega); rw [e, if_pos List.all_nil]; refine Ev.step (f := fun _ => some 1) (fun k => ?_) (Ev.now _); rw [spec_l02Meet.l2, if_neg (by omega)]
 | succ d ih =>
  intro i hd hi
  have hlt : i < xs.length := by omega
  have e : xs.drop i = xs[i] :: xs.drop (i + 1) := List.drop_eq_getElem_cons hlt; by_cases c : xs[i] = z
  ·have H := ih (i + 1) (by omega) (by omega)
   have ee : (xs.drop i).all (fun x => eqPt x z) = (xs.drop (i + 1)).all (fun x => eqPt x z) := by rw [e, List.all_cons, (eqPt_iff _ _).mpr c, Bool.true_and]
   rw [ee]; refine Ev.step (fun k => ?_) H; rw [spec_l02Meet.l2, if_pos (by omega), if_pos (by omega), if_pos (by omega), if_pos (by omega), rdT_nat xs i hlt, hr0, c, w1 (by omega)]; simp
  ·rw [if_neg (by rw [e, List.all_cons, show eqPt xs[i] z = false from by rw [← Bool.not_eq_true, eqPt_iff]; exact c]; simp)]
   refine Ev.step (f := fun _ => some 3) (fun k => ?_) (Ev.now _); rw [spec_l02Meet.l2, if_pos (by omega), if_pos (by omega), if_pos (by omega), if_pos (by omega), rdT_nat xs i hlt, hr0]; rw [if_pos]; have : ¬ (eqPt xs[i] z = true) := fun h => c ((eqPt_iff _ _).mp h)
   unfold eqPt at this
   revert this
   cases (xs[i].f0 == z.f0) <;> cases (xs[i].f1 == z.f1) <;> simp
theorem s_meet_l1 (a b : S25) (ys : List S25) (hy : ys.length ≤ 10) (R : Int) (xs0 : List S25)
  (hR : ∀ xs, xs = xs0 → Ev (fun k => if (xs.length : Int) = 0 then some 0 else spec_l02Meet.l2 k xs (xs.length : Int) 0) R) (n : Nat) : ∀ (i : Nat) (xs : List S25), ys.length - i = n → i ≤ ys.length → xs.length ≤ 10 + i → xs ++ (ys.drop i).filter (onB a b) = xs0 →
  Ev (fun k => spec_l02Meet.l1 k xs ys (ys.length : Int) (i : Int) a.f0 a.f1 b.f0 b.f1) R := by
 induction n with
 | zero =>
  intro i xs hn hi hl he
  rw [List.drop_of_length_le (by omega), List.filter_nil, List.append_nil] at he; refine Ev.step (fun k => ?_) (hR xs he); rw [spec_l02Meet.l1, if_neg (by omega)]
 | succ n ih =>
  intro i xs hn hi hl he
  have hlt : i < ys.length := by omega
  rw [List.drop_eq_getElem_cons hlt] at he; by_cases c : onB a b ys[i] = true
  ·rw [List.filter_cons_of_pos c] at he
   have H := ih (i + 1) (xs ++ [ys[i]]) (by omega) (by omega) (by simp; omega) (by simpa using he); refine Ev.step (fun k => ?_) H; rw [spec_l02Meet.l1, if_pos (by omega), if_pos (by omega), if_pos (by omega), rdT_nat ys i hlt, s_on_f, Option.bind_some, if_pos c, if_pos (by omega), w1 (by omega)]
  ·rw [List.filter_cons_of_neg c] at he
   have H := ih (i + 1) xs (by omega) (by omega) (by omega) he; refine Ev.step (fun k => ?_) H; rw [spec_l02Meet.l1, if_pos (by omega), if_pos (by omega), if_pos (by omega), rdT_nat ys i hlt, s_on_f, Option.bind_some, if_neg c, w1 (by omega)]
theorem s_meet_l0 (a b c d : S25) (ys : List S25) (hy : ys.length ≤ 10) (R : Int) (xs0 : List S25)
  (hR : ∀ xs, xs = xs0 → Ev (fun k => spec_l02Meet.l1 k xs [c, d] 2 0 a.f0 a.f1 b.f0 b.f1) R) (n : Nat) : ∀ (i : Nat) (xs : List S25), ys.length - i = n → i ≤ ys.length → xs.length ≤ 10 + i → xs ++ (ys.drop i).filter (onB c d) = xs0 →
  Ev (fun k => spec_l02Meet.l0 k xs ys (ys.length : Int) (i : Int) a.f0 a.f1 b.f0 b.f1 c.f0 c.f1 d.f0 d.f1) R := by
 induction n with
 | zero =>
  intro i xs hn hi hl he
  rw [List.drop_of_length_le (by omega), List.filter_nil, List.append_nil] at he; refine Ev.step (fun k => ?_) (hR xs he); rw [spec_l02Meet.l0, if_neg (by omega)]; rfl
 | succ n ih =>
  intro i xs hn hi hl he
  have hlt : i < ys.length := by omega
  rw [List.drop_eq_getElem_cons hlt] at he; by_cases c' : onB c d ys[i] = true
  ·rw [List.filter_cons_of_pos c'] at he
   have H := ih (i + 1) (xs ++ [ys[i]]) (by omega) (by omega) (by simp; omega) (by simpa using he); refine Ev.step (fun k => ?_) H; rw [spec_l02Meet.l0, if_pos (by omega), if_pos (by omega), if_pos (by omega), rdT_nat ys i hlt, s_on_f, Option.bind_some, if_pos c', if_pos (by omega), w1 (by omega)]
  ·rw [List.filter_cons_of_neg c'] at he
   have H := ih (i + 1) xs (by omega) (by omega) (by omega) he; refine Ev.step (fun k => ?_) H; rw [spec_l02Meet.l0, if_pos (by omega), if_pos (by omega), if_pos (by omega), rdT_nat ys i hlt, s_on_f, Option.bind_some, if_neg c', w1 (by omega)]
theorem sharedS_len (a b c d : S25) : (sharedS a b c d).length ≤ 4 := by
 unfold sharedS
 rw [List.length_append]
 have h1 := List.length_filter_le (onB c d) [a, b]
 have h2 := List.length_filter_le (onB a b) [c, d]
 simp only [List.length_cons, List.length_nil] at h1 h2
 omega
theorem s_meet_f (a b c d : S25) : Ev (fun k => spec_l02Meet.f k a.f0 a.f1 b.f0 b.f1 c.f0 c.f1 d.f0 d.f1) (meetV a b c d) := by
 have hL := addL_len (shared a b c d)
 have key : ¬ crossing a b c d → Ev (fun k => spec_l02Meet.j0 k false a.f0 a.f1 b.f0 b.f1 c.f0 c.f1 d.f0 d.f1) (meetV a b c d) := by
  intro hc
  refine Ev.step (f := fun k => spec_l02Meet.l0 k [] [a, b] 2 0 a.f0 a.f1 b.f0 b.f1 c.f0 c.f1 d.f0 d.f1) (fun k => ?_) ?_
  ·rw [spec_l02Meet.j0, if_neg (by simp)]; rfl
  ·refine s_meet_l0 a b c d [a, b] (by simp) _ ([a, b].filter (onB c d)) (fun xs hxs => ?_) 2 0 [] rfl (by simp) (by simp) (by simp)
   have hxl : xs.length ≤ 2 := by rw [hxs]; exact Nat.le_trans (List.length_filter_le _ _) (by simp)
   refine s_meet_l1 a b [c, d] (by simp) _ (sharedS a b c d) (fun ys hys => ?_) 2 0 xs rfl (by simp) (by omega) (by rw [hxs]; rfl); have hl4 : ys.length ≤ 4 := by rw [hys]; exact sharedS_len a b c d
   unfold meetV
   rw [if_neg hc]; cases ys with
   | nil =>
    have e : shared a b c d = [] := List.eq_nil_iff_forall_not_mem.mpr fun q hq => by rw [← sharedS_mem, ← hys] at hq; simp at hq
    rw [e]; exact Ev.now _
   | cons z t =>
    have hz : z ∈ shared a b c d := by rw [← sharedS_mem, ← hys]; simp
    have hne : shared a b c d ≠ [] := fun e => by rw [e] at hz; simp at hz
    have hn0 : addL [] (shared a b c d) ≠ [] := fun e => hne (hL.1.mp e)
    have hpos : 0 < (addL [] (shared a b c d)).length := List.length_pos_iff.mpr hn0; have H := s_meet_l2 (z :: t) (by omega) z t rfl _ 0 rfl (by omega); have ev : (if (addL [] (shared a b c d)).length > 1 then (3 : Int) else if (addL [] (shared a b c d)).length = 1 then 1 else 0) = if ((z :: t).drop 0).all (fun x => eqPt x z) = true then 1 else 3 := by
     by_cases cc : ((z :: t).drop 0).all (fun x => eqPt x z) = true
     ·have h1 := hL.2.mpr ⟨hne, fun x hx y hy => by
       rw [← sharedS_mem, ← hys] at hx hy; have f : ∀ q ∈ z :: t, q = z := fun q hq => (eqPt_iff _ _).mp (List.all_eq_true.mp cc q hq)
       exact (f x hx).trans (f y hy).symm⟩
      rw [if_pos cc, if_neg (by omega), if_pos h1]
     ·have h1 : ¬ (addL [] (shared a b c d)).length = 1 := fun h => cc (List.all_eq_true.mpr fun x hx => (eqPt_iff _ _).mpr ((hL.2.mp h).2 x (by rw [← sharedS_mem, ← hys]; exact hx) z hz))
      rw [if_neg cc, if_pos (by omega)]
    rw [ev]; exact Ev.congr (fun k => by rw [if_neg (by simp only [List.length_cons]; omega)]; rfl) H
 unfold spec_l02Meet.f
 simp only [s_cross_f, s_sign_f, Option.bind_some]
 by_cases h1 : wrap64 (sgn (crw a b c) * sgn (crw a b d)) < 0
 ·by_cases h2 : wrap64 (sgn (crw c d a) * sgn (crw c d b)) < 0
  ·simp only [if_pos h1]
   rw [decide_eq_true h2]; refine Ev.step (f := fun _ => some (meetV a b c d)) (fun k => ?_) (Ev.now _); rw [spec_l02Meet.j0, if_pos rfl]; have e := crossing_none ⟨h1, h2⟩; unfold meetV
   rw [e, if_neg (by simp [addL]), if_neg (by simp [addL]), if_pos ⟨h1, h2⟩]
  ·simp only [if_pos h1]
   rw [decide_eq_false h2]; exact key fun h => h2 h.2
 ·simp only [if_neg h1]
  exact key fun h => h1 h.1

/-! a polygon: the program's and the reference's tests are one -/
def pt (l : List S25) (i : Nat) : S25 := rd_T25 l (i : Int)
def nx (n i : Nat) : Nat := (i + 1) % n
theorem nx_lt {n i : Nat} (h : 0 < n) : nx n i < n := Nat.mod_lt _ h
theorem tm {n i : Nat} (hi : i ≤ 1000) : Int.tmod (wrap64 ((i : Int) + 1)) (n : Int) = ((nx n i : Nat) : Int) := by
 rw [w1 (by omega)]
 exact (Int.ofNat_tmod _ _).symm
theorem tm2 {n i : Nat} : Int.tmod ((i + 1 : Nat) : Int) (n : Int) = ((nx n i : Nat) : Int) := (Int.ofNat_tmod _ _).symm
def wantV (n i k : Nat) : Int := if k = i + 1 ∨ (i = 0 ∧ k + 1 = n) then 1 else 0
def meetsB (l : List S25) (i k : Nat) : Bool := meetV (pt l i) (pt l (nx l.length i)) (pt l k) (pt l (nx l.length k)) == wantV l.length i k
def ptOk (p : S25) : Bool := decide (0 ≤ p.f0 ∧ p.f0 ≤ 40) && decide (0 ≤ p.f1 ∧ p.f1 ≤ 40)
theorem ptOk_f (p : S25) : impl_PointOk.f p.f0 p.f1 = some (ptOk p) := by
 unfold impl_PointOk.f ptOk
 rw [within_f, Option.bind_some]
 by_cases h : 0 ≤ p.f0 ∧ p.f0 ≤ 40
 ·rw [if_pos (decide_eq_true h), within_f, Option.bind_some, decide_eq_true h, Bool.true_and]
 ·rw [if_neg (by simpa using h), decide_eq_false h, Bool.false_and]
theorem s_ptOk_f (p : S25) : spec_PointOk.f p.f0 p.f1 = some (ptOk p) := by
 unfold spec_PointOk.f ptOk
 rw [l01In_f, Option.bind_some]
 by_cases h : 0 ≤ p.f0 ∧ p.f0 ≤ 40
 ·rw [if_pos (decide_eq_true h), l01In_f, Option.bind_some, decide_eq_true h, Bool.true_and]
 ·rw [if_neg (by simpa using h), decide_eq_false h, Bool.false_and]
theorem drop_all {α : Type} {l : List α} {i : Nat} (f : α → Bool) (h : i < l.length) : (l.drop i).all f = (f l[i] && (l.drop (i + 1)).all f) := by
 rw [List.drop_eq_getElem_cons h, List.all_cons]
theorem arePoints_f (l : List S25) (hl : l.length ≤ 1000) (d : Nat) : ∀ i : Nat, l.length - i = d → i ≤ l.length → Ev (fun k => impl_arePoints.l0 k l (l.length : Int) (i : Int)) ((l.drop i).all ptOk) := by
 induction d with
 | zero =>
  intro i hd hi
  rw [List.drop_of_length_le (by omega), List.all_nil]; refine Ev.step (f := fun _ => some true) (fun k => ?_) (Ev.now _); rw [impl_arePoints.l0, if_neg (by omega)]
 | succ d ih =>
  intro i hd hi
  have hlt : i < l.length := by omega
  rw [drop_all _ hlt]; by_cases c : ptOk l[i] = true
  ·rw [c, Bool.true_and]
   refine Ev.step (fun k => ?_) (ih (i + 1) (by omega) (by omega)); rw [impl_arePoints.l0, if_pos (by omega), if_pos (by omega), if_pos (by omega), rdT_nat l i hlt, ptOk_f, Option.bind_some, if_pos c, w1 (by omega)]
  ·rw [show ptOk l[i] = false by simpa using c, Bool.false_and]
   refine Ev.step (f := fun _ => some false) (fun k => ?_) (Ev.now _); rw [impl_arePoints.l0, if_pos (by omega), if_pos (by omega), if_pos (by omega), rdT_nat l i hlt, ptOk_f, Option.bind_some, if_neg c]
def pairB (l : List S25) (i k : Nat) : Bool := (!eqPt (pt l i) (pt l (i + 1))) && ((!eqPt (pt l k) (pt l (nx l.length k))) && (meetV (pt l i) (pt l (i + 1)) (pt l k) (pt l (nx l.length k)) == wantV l.length i k))
theorem poPair_f (l : List S25) (i k : Nat) : poPair l i k = some (pairB l i k) := by
 unfold poPair pairB pt nx wantV
 by_cases c1 : eqPt (rd_T25 l (i : Int)) (rd_T25 l ((i + 1 : Nat) : Int)) = true
 ·rw [if_pos c1, c1]; rfl
 ·rw [if_neg c1, show eqPt (rd_T25 l (i : Int)) (rd_T25 l ((i + 1 : Nat) : Int)) = false by simpa using c1]
  by_cases c2 : eqPt (rd_T25 l (k : Int)) (rd_T25 l (((k + 1) % l.length : Nat) : Int)) = true
  ·rw [if_pos c2, c2]; rfl
  ·rw [if_neg c2, show eqPt (rd_T25 l (k : Int)) (rd_T25 l (((k + 1) % l.length : Nat) : Int)) = false by simpa using c2, meet_f, Option.bind_some]
   rfl
theorem poInner_f (l : List S25) (i : Nat) : ∀ m k, poInner l i m k = some ((List.range' k m).all (pairB l i))
 | 0, k => rfl
 | m + 1, k => by
  rw [poInner, poPair_f, Option.bind_some, List.range'_succ, List.all_cons]; by_cases c : pairB l i k = true
  ·rw [if_pos c, c, Bool.true_and]; exact poInner_f l i m (k + 1)
  ·rw [if_neg c, show pairB l i k = false by simpa using c, Bool.false_and]
theorem poOuter_f (l : List S25) : ∀ m i, i + m = l.length → poOuter l m i = some ((List.range' i m).all fun j => (List.range' (j + 1) (l.length - (j + 1))).all (pairB l j))
 | 0, i, _ => rfl
 | m + 1, i, h => by
  rw [poOuter, poInner_f, Option.bind_some, List.range'_succ, List.all_cons, show l.length - (i + 1) = m by omega]; by_cases c : (List.range' (i + 1) m).all (pairB l i) = true
  ·rw [if_pos c, c, Bool.true_and]; exact poOuter_f l m (i + 1) (by omega)
  ·rw [if_neg c, (Bool.not_eq_true _).mp c, Bool.false_and]
def polyB (l : List S25) : Bool := decide (3 ≤ l.length ∧ l.length ≤ 10) && (l.all ptOk && (((List.range l.length).all fun i => !eqPt (pt l i) (pt l (nx l.length i))) && ((List.range l.length).all fun i => (List.range' (i + 1) (l.length - (i + 1))).all (meetsB l i))))
theorem poly_same (l : List S25) (h3 : 3 ≤ l.length) : ((List.range' 0 l.length).all fun j => (List.range' (j + 1) (l.length - (j + 1))).all (pairB l j)) = (((List.range l.length).all fun i => !eqPt (pt l i) (pt l (nx l.length i))) && ((List.range l.length).all fun i => (List.range' (i + 1) (l.length - (i + 1))).all (meetsB l i))) := by
 have nxe : ∀ i, i + 1 < l.length → nx l.length i = i + 1 := fun i hi => Nat.mod_eq_of_lt hi
 rw [Bool.eq_iff_iff]
 simp only [List.all_eq_true, Bool.and_eq_true, List.mem_range, List.mem_range'_1, pairB, meetsB, Bool.not_eq_true']
 constructor
 ·intro H
  refine ⟨fun i hi => ?_, fun i hi k hk => ?_⟩
  ·by_cases c : i + 1 < l.length
   ·rw [nxe i c]
    exact (H i ⟨by omega, by omega⟩ (i + 1) ⟨by omega, by omega⟩).1
   ·exact (H 0 ⟨by omega, by omega⟩ i ⟨by omega, by omega⟩).2.1
  ·rw [nxe i (by omega)]
   exact (H i ⟨by omega, by omega⟩ k hk).2.2
 ·intro ⟨H1, H2⟩ i hi k hk
  have := H2 i (by omega) k hk; have h1 := H1 i (by omega); rw [nxe i (by omega)] at this h1; exact ⟨h1, H1 k (by omega), this⟩
theorem impl_poly (l : List S25) (hl : l.length ≤ 1048576) : Ev (fun k => impl_PolygonOk.f k l) (polyB l) := by
 unfold impl_PolygonOk.f polyB
 by_cases c1 : l.length < 3
 ·simp only [if_pos c1]
  rw [show decide (3 ≤ l.length ∧ l.length ≤ 10) = false from decide_eq_false (by omega), Bool.false_and]; exact Ev.now _
 ·by_cases c2 : l.length > 10
  ·simp only [if_neg c1, if_pos c2]
   rw [show decide (3 ≤ l.length ∧ l.length ≤ 10) = false from decide_eq_false (by omega), Bool.false_and]; exact Ev.now _
  ·simp only [if_neg c1, if_neg c2]
   rw [show decide (3 ≤ l.length ∧ l.length ≤ 10) = true from decide_eq_true (by omega), Bool.true_and]; refine Ev.bind (arePoints_f l (by omega) l.length 0 (by omega) (by omega)) ?_; rw [List.drop_zero]; by_cases c : l.all ptOk = true
   ·simp only [if_pos c]
    rw [c, Bool.true_and, poOuter_f l l.length 0 (by omega), poly_same l (by omega)]; exact Ev.now _
   ·simp only [if_neg c]
    rw [show l.all ptOk = false by simpa using c, Bool.false_and]; exact Ev.now _
theorem sp_l3 (l : List S25) (h3 : 3 ≤ l.length ∧ l.length ≤ 10) (i : Nat) (hi : i < l.length) (R : Bool) (hR : Ev (fun k => spec_PolygonOk.l2 k l (l.length : Int) (l.length : Int) ((i + 1 : Nat) : Int)) R) (d : Nat) :
  ∀ j : Nat, l.length - j = d → i < j → j ≤ l.length → Ev (fun k => spec_PolygonOk.l3 k l (l.length : Int) (i : Int) (j : Int) (l.length : Int) (i : Int)) ((List.range' j d).all (meetsB l i) && R) := by
 have hn := nx_lt (n := l.length) (i := i) (by omega)
 induction d with
 | zero =>
  intro j hd hij hj
  refine Ev.step (fun k => ?_) (show Ev _ _ from hR); rw [spec_PolygonOk.l3, if_neg (by omega), w1 (by omega)]
 | succ d ih =>
  intro j hd hij hj
  have hnj := nx_lt (n := l.length) (i := j) (by omega); have H := ih (j + 1) (by omega) (by omega) (by omega); rw [List.range'_succ, List.all_cons]; have hj4 : ∀ b : Bool, wantV l.length i j = (if b = true then 1 else 0) → Ev (fun k => spec_PolygonOk.j4 k l (l.length : Int) (i : Int) (j : Int) (meetV (pt l i) (pt l (nx l.length i)) (pt l j) (pt l (nx l.length j))) (l.length : Int) (i : Int) b) ((meetsB l i j && (List.range' (j + 1) d).all (meetsB l i)) && R) := by
   intro b hb
   by_cases c : meetsB l i j = true
   ·rw [c, Bool.true_and]
    refine Ev.step (fun k => ?_) H; have e : meetV (pt l i) (pt l (nx l.length i)) (pt l j) (pt l (nx l.length j)) = if b = true then 1 else 0 := by rw [← hb]; exact beq_iff_eq.mp c
    rw [spec_PolygonOk.j4, e, w1 (by omega)]; cases b <;> rfl
   ·rw [show meetsB l i j = false by simpa using c, Bool.false_and, Bool.false_and]
    refine Ev.step (f := fun _ => some false) (fun k => ?_) (Ev.now _); have e : meetV (pt l i) (pt l (nx l.length i)) (pt l j) (pt l (nx l.length j)) ≠ if b = true then 1 else 0 := by rw [← hb]; exact fun h => c (beq_iff_eq.mpr h)
    rw [spec_PolygonOk.j4]; cases b
    ·rw [if_neg (by simp), if_neg (by simpa using e)]
    ·rw [if_pos rfl, if_neg (by simpa using e)]
  have hm := s_meet_f (pt l i) (pt l (nx l.length i)) (pt l j) (pt l (nx l.length j)); refine Ev.step (f := fun k => (spec_l02Meet.f k (pt l i).f0 (pt l i).f1 (pt l (nx l.length i)).f0 (pt l (nx l.length i)).f1 (pt l j).f0 (pt l j).f1 (pt l (nx l.length j)).f0 (pt l (nx l.length j)).f1).bind fun t => if (j : Int) = wrap64 ((i : Int) + 1) then spec_PolygonOk.j4 k l (l.length : Int) (i : Int) (j : Int) t (l.length : Int) (i : Int) true else if (i : Int) = 0 then spec_PolygonOk.j4 k l (l.length : Int) (i : Int) (j : Int) t (l.length : Int) (i : Int) ((j : Int) == wrap64 ((l.length : Int) - 1)) else spec_PolygonOk.j4 k l (l.length : Int) (i : Int) (j : Int) t (l.length : Int) (i : Int) false) (fun k => ?_) (Ev.bind hm ?_)
  ·rw [spec_PolygonOk.l3, if_pos (by omega), if_pos (by omega), if_pos (by omega), if_neg (by omega)]
   simp only [tm (n := l.length) (show i ≤ 1000 by omega), tm (n := l.length) (show j ≤ 1000 by omega)]; rw [if_pos (by omega), if_pos (by omega), if_pos (by omega), if_pos (by omega), if_pos (by omega), if_pos (by omega)]; rfl
  ·rw [w1 (show i ≤ 140737488355328 by omega), w64 (x := (l.length : Int) - 1) (by omega) (by omega)]
   by_cases c1 : j = i + 1
   ·simp only [if_pos (show (j : Int) = ((i + 1 : Nat) : Int) by omega)]
    exact hj4 true (by unfold wantV; rw [if_pos (Or.inl c1), if_pos rfl])
   ·simp only [if_neg (show ¬ (j : Int) = ((i + 1 : Nat) : Int) by omega)]
    by_cases c2 : i = 0
    ·simp only [if_pos (show (i : Int) = 0 by omega)]
     refine hj4 _ ?_; unfold wantV
     by_cases c3 : j + 1 = l.length
     ·rw [if_pos (Or.inr ⟨c2, c3⟩), if_pos (beq_iff_eq.mpr (by omega))]
     ·rw [if_neg (by omega), if_neg (by rw [beq_iff_eq]; omega)]
    ·simp only [if_neg (show ¬ (i : Int) = 0 by omega)]
     exact hj4 false (by unfold wantV; rw [if_neg (by omega), if_neg (by simp)])
theorem sp_l2 (l : List S25) (h3 : 3 ≤ l.length ∧ l.length ≤ 10) (d : Nat) : ∀ i : Nat, l.length - i = d → i ≤ l.length → Ev (fun k => spec_PolygonOk.l2 k l (l.length : Int) (l.length : Int) (i : Int)) ((List.range' i d).all fun i => (List.range' (i + 1) (l.length - (i + 1))).all (meetsB l i)) := by
 induction d with
 | zero =>
  intro i hd hi
  refine Ev.step (f := fun _ => some true) (fun k => ?_) (Ev.now _); rw [spec_PolygonOk.l2, if_neg (by omega)]
 | succ d ih =>
  intro i hd hi
  rw [List.range'_succ, List.all_cons]; refine Ev.step (fun k => ?_) (sp_l3 l h3 i (by omega) _ (ih (i + 1) (by omega) (by omega)) (l.length - (i + 1)) (i + 1) rfl (by omega) (by omega)); rw [spec_PolygonOk.l2, if_pos (by omega), w1 (by omega)]
theorem sp_l1 (l : List S25) (h3 : 3 ≤ l.length ∧ l.length ≤ 10) (d : Nat) : ∀ i : Nat, l.length - i = d → i ≤ l.length → Ev (fun k => spec_PolygonOk.l1 k l (l.length : Int) (l.length : Int) (i : Int)) (((List.range' i d).all fun i => !eqPt (pt l i) (pt l (nx l.length i))) && ((List.range' 0 l.length).all fun i => (List.range' (i + 1) (l.length - (i + 1))).all (meetsB l i))) := by
 induction d with
 | zero =>
  intro i hd hi
  refine Ev.step (fun k => ?_) (sp_l2 l h3 l.length 0 (by omega) (by omega)); rw [spec_PolygonOk.l1, if_neg (by omega)]; rfl
 | succ d ih =>
  intro i hd hi
  have hn := nx_lt (n := l.length) (i := i) (by omega); rw [List.range'_succ, List.all_cons]; by_cases c : eqPt (pt l i) (pt l (nx l.length i)) = true
  ·rw [c]
   refine Ev.step (f := fun _ => some false) (fun k => ?_) (Ev.now _); rw [spec_PolygonOk.l1, if_pos (by omega), if_pos (by omega), if_pos (by omega), if_neg (by omega), tm (n := l.length) (show i ≤ 1000 by omega), if_pos (by omega), if_pos (by omega)]; exact if_pos c
  ·rw [show eqPt (pt l i) (pt l (nx l.length i)) = false by simpa using c, Bool.not_false, Bool.true_and]
   refine Ev.step (fun k => ?_) (ih (i + 1) (by omega) (by omega)); rw [spec_PolygonOk.l1, if_pos (by omega), if_pos (by omega), if_pos (by omega), if_neg (by omega), tm (n := l.length) (show i ≤ 1000 by omega), if_pos (by omega), if_pos (by omega), w1 (by omega)]; exact if_neg c
theorem sp_l0 (l : List S25) (h3 : 3 ≤ l.length ∧ l.length ≤ 10) (d : Nat) : ∀ i : Nat, l.length - i = d → i ≤ l.length → Ev (fun k => spec_PolygonOk.l0 k l l (l.length : Int) (i : Int)) ((l.drop i).all ptOk && (((List.range' 0 l.length).all fun i => !eqPt (pt l i) (pt l (nx l.length i))) && ((List.range' 0 l.length).all fun i => (List.range' (i + 1) (l.length - (i + 1))).all (meetsB l i)))) := by
 induction d with
 | zero =>
  intro i hd hi
  rw [List.drop_of_length_le (by omega), List.all_nil, Bool.true_and]; refine Ev.step (fun k => ?_) (sp_l1 l h3 l.length 0 (by omega) (by omega)); rw [spec_PolygonOk.l0, if_neg (by omega)]; rfl
 | succ d ih =>
  intro i hd hi
  have hlt : i < l.length := by omega
  rw [drop_all _ hlt]; by_cases c : ptOk l[i] = true
  ·rw [c, Bool.true_and]
   refine Ev.step (fun k => ?_) (ih (i + 1) (by omega) (by omega)); rw [spec_PolygonOk.l0, if_pos (by omega), if_pos (by omega), if_pos (by omega), rdT_nat l i hlt, s_ptOk_f, Option.bind_some, if_pos c, w1 (by omega)]
  ·rw [show ptOk l[i] = false by simpa using c, Bool.false_and, Bool.false_and]
   refine Ev.step (f := fun _ => some false) (fun k => ?_) (Ev.now _); rw [spec_PolygonOk.l0, if_pos (by omega), if_pos (by omega), if_pos (by omega), rdT_nat l i hlt, s_ptOk_f, Option.bind_some, if_neg c]
theorem spec_poly (l : List S25) : Ev (fun k => spec_PolygonOk.f k l) (polyB l) := by
 unfold spec_PolygonOk.f polyB
 simp only [l01In_f, Option.bind_some]
 by_cases c : 3 ≤ l.length ∧ l.length ≤ 10
 ·simp only [if_pos (show decide ((3 : Int) ≤ (l.length : Int) ∧ (l.length : Int) ≤ 10) = true from decide_eq_true (by omega))]
  rw [show decide (3 ≤ l.length ∧ l.length ≤ 10) = true from decide_eq_true c, Bool.true_and]; have := sp_l0 l c l.length 0 (by omega) (by omega); rw [List.drop_zero, ← List.range_eq_range'] at this; exact this
 ·simp only [if_neg (show ¬ decide ((3 : Int) ≤ (l.length : Int) ∧ (l.length : Int) ≤ 10) = true by rw [decide_eq_true_eq]; omega)]
  rw [show decide (3 ≤ l.length ∧ l.length ≤ 10) = false from decide_eq_false c, Bool.false_and]; exact Ev.now _
theorem polyB_len {l : List S25} (h : polyB l = true) : 3 ≤ l.length ∧ l.length ≤ 10 := by
 unfold polyB at h
 rw [Bool.and_eq_true] at h
 exact of_decide_eq_true h.1

/-! triangles that make a polygon: the program's and the reference's tests are one -/
def crT (l : List S25) (t : List Int) : Int := crw (rd_T25 l (rd t 0)) (rd_T25 l (rd t 1)) (rd_T25 l (rd t 2))
def szT (l : List S25) (t : List Int) : Int := mx (crT l t) (wrap64 (-(crT l t)))
theorem szT_zero (l : List S25) (t : List Int) : szT l t = 0 ↔ crT l t = 0 := by
 have h : -9223372036854775808 ≤ crT l t ∧ crT l t ≤ 9223372036854775807 := by
  unfold crT crw
  generalize (wrap64 _ : Int) - (wrap64 _ : Int) = z
  unfold wrap64
  omega
 unfold szT mx wrap64
 generalize crT l t = c at *
 split <;> omega
theorem okB_of {n : Int} {t : List Int} (h : itOkB n t = true) : t.length = 3 ∧ 0 ≤ rd t 0 ∧ rd t 0 < rd t 1 ∧ rd t 1 < rd t 2 ∧ rd t 2 < n := by
 have := of_decide_eq_true h
 omega
theorem s_area {l : List S25} {t : List Int} (h : itOkB (l.length : Int) t = true) : spec_l05Area.f l t = some (szT l t) := by
 obtain ⟨h1, h2, h3, h4, h5⟩ := okB_of h
 unfold spec_l05Area.f
 rw [if_pos (by omega), if_pos (by omega), if_pos (by omega), if_pos (by omega), if_pos (by omega), if_pos (by omega), if_pos (by omega), if_pos (by omega), if_pos (by omega)]
 rfl
def triOk (l : List S25) (t : List Int) : Bool := itOkB (l.length : Int) t && !decide (crT l t = 0)
theorem itRow_f (l : List S25) (t : List Int) : itRow l t = some (if triOk l t = true then some (szT l t) else none) := by
 unfold itRow triOk
 by_cases e1 : (t.length : Int) = 3
 ·rw [if_pos e1]
  by_cases e2 : rd t 0 < 0
  ·rw [if_pos e2, show itOkB (l.length : Int) t = false from decide_eq_false (fun z => z.2.1 e2)]; rfl
  ·rw [if_neg e2]
   by_cases e3 : rd t 0 ≥ rd t 1
   ·rw [if_pos e3, show itOkB (l.length : Int) t = false from decide_eq_false (fun z => z.2.2.1 e3)]; rfl
   ·rw [if_neg e3]
    by_cases e4 : rd t 1 ≥ rd t 2
    ·rw [if_pos e4, show itOkB (l.length : Int) t = false from decide_eq_false (fun z => z.2.2.2.1 e4)]; rfl
    ·rw [if_neg e4]
     by_cases e5 : rd t 2 ≥ (l.length : Int)
     ·rw [if_pos e5, show itOkB (l.length : Int) t = false from decide_eq_false (fun z => z.2.2.2.2 e5)]; rfl
     ·rw [if_neg e5, show itOkB (l.length : Int) t = true from decide_eq_true ⟨e1, e2, e3, e4, e5⟩, Bool.true_and]
      show (some (crT l t)).bind _ = _
      rw [Option.bind_some]; by_cases e6 : crT l t = 0
      ·rw [if_pos e6, decide_eq_true e6]; rfl
      ·rw [if_neg e6, decide_eq_false e6]; rfl
 ·rw [if_neg e1, show itOkB (l.length : Int) t = false from decide_eq_false (fun z => e1 z.1)]; rfl
def triR (l : List S25) : List (List Int) → Int → List (Int × Int) → Option (Int × List (Int × Int))
 | [], a, ks => some (a, ks)
 | t :: ts, a, ks => if triOk l t = true then triR l ts (wrap64 (a + szT l t)) (ks ++ itKeys t) else none
theorem itRows_f (l : List S25) : ∀ (ts : List (List Int)) (a : Int) (ks : List (Int × Int)), itRows l ts a ks = some (triR l ts a ks)
 | [], a, ks => rfl
 | t :: ts, a, ks => by
  rw [itRows, itRow_f, Option.bind_some, triR]; by_cases c : triOk l t = true
  ·rw [if_pos c, if_pos c]; exact itRows_f l ts _ _
  ·rw [if_neg c, if_neg c]
structure ArrIs (n : Nat) (ks : List (Int × Int)) (x : List Int) : Prop where
 len : x.length = n * n
 cnt : ∀ i k : Nat, i < n → k < n → rd x ((i * n + k : Nat) : Int) = itCnt ks i k
structure KsOk (n : Nat) (ks : List (Int × Int)) : Prop where
 ok : ∀ q ∈ ks, 0 ≤ q.1 ∧ q.1 < q.2 ∧ q.2 < (n : Int)
theorem cell_lt {n i k : Nat} (hi : i < n) (hk : k < n) : i * n + k < n * n := by
 have : (i + 1) * n ≤ n * n := Nat.mul_le_mul_right n hi
 rw [Nat.succ_mul] at this
 omega
theorem cell_inj {n i k i' k' : Nat} (hk : k < n) (hk' : k' < n) (h : i * n + k = i' * n + k') : i = i' ∧ k = k' := by
 have h1 : (i * n + k) / n = (i' * n + k') / n := by rw [h]
 have h2 : (i * n + k) % n = (i' * n + k') % n := by rw [h]
 rw [Nat.mul_comm i n, Nat.mul_comm i' n, Nat.mul_add_div (by omega), Nat.mul_add_div (by omega), Nat.div_eq_of_lt hk, Nat.div_eq_of_lt hk'] at h1
 rw [Nat.mul_comm i n, Nat.mul_comm i' n, Nat.mul_add_mod, Nat.mul_add_mod, Nat.mod_eq_of_lt hk, Nat.mod_eq_of_lt hk'] at h2
 omega
theorem rd_set (l : List Int) (i j : Nat) (v : Int) (hi : i < l.length) : rd (l.set i v) (j : Int) = if j = i then v else rd l (j : Int) := by
 simp only [rd, Int.toNat_natCast, List.getD_eq_getElem?_getD, List.getElem?_set]
 by_cases e : i = j
 ·subst e; simp [hi]
 ·rw [if_neg e, if_neg (fun h => e h.symm)]
theorem arr_step {n : Nat} {ks : List (Int × Int)} {x : List Int} (h : ArrIs n ks x) (hks : ks.length ≤ 1000) {i k : Nat} (hi : i < n) (hk : k < n) :
  ArrIs n (ks ++ [((i : Int), (k : Int))]) (x.set (i * n + k) (wrap64 (rd x ((i * n + k : Nat) : Int) + 1))) := by
 have hlt := cell_lt hi hk
 refine ⟨by rw [List.length_set]; exact h.len, fun i' k' hi' hk' => ?_⟩
 rw [rd_set _ _ _ _ (by rw [h.len]; exact hlt), itCnt_snoc, h.cnt i k hi hk]
 have hb := itCnt_nn ks i k
 by_cases e : i' * n + k' = i * n + k
 ·obtain ⟨rfl, rfl⟩ := cell_inj hk' hk e
  rw [if_pos rfl, if_pos ⟨rfl, rfl⟩, w64 (by omega) (by omega)]
 ·rw [if_neg e, h.cnt i' k' hi' hk', if_neg (by rintro ⟨g1, g2⟩; exact e (by rw [show i' = i by omega, show k' = k by omega])), Int.add_zero]
theorem mul_cell {n i k : Nat} (hn : n ≤ 10) (hi : i < n) (hk : k < n) : wrap64 (wrap64 ((i : Int) * (n : Int)) + (k : Int)) = ((i * n + k : Nat) : Int) := by
 have h1 := cell_lt hi hk
 have h2 : n * n ≤ 100 := Nat.le_trans (Nat.mul_le_mul hn hn) (by decide)
 have h3 : (i : Int) * (n : Int) = ((i * n : Nat) : Int) := by simp
 rw [h3, w64 (x := ((i * n : Nat) : Int)) (by omega) (by omega), w64 (by omega) (by omega)]
 simp
def twF (l : List S25) : Nat → Nat → Int → Int
 | 0, _, c => c
 | m + 1, i, c => twF l m (i + 1) (wrap64 (c + wrap64 (wrap64 ((pt l i).f0 * (pt l (nx l.length i)).f1) - wrap64 ((pt l i).f1 * (pt l (nx l.length i)).f0))))
theorem impl_tw_l (l : List S25) (h3 : 3 ≤ l.length ∧ l.length ≤ 10) (n : Nat) : ∀ (i : Nat) (c : Int), l.length - i = n → i ≤ l.length → Ev (fun k => impl_twice.l0 k l c l (l.length : Int) (i : Int)) (twF l n i c) := by
 induction n with
 | zero =>
  intro i c hn hi
  refine Ev.step (f := fun _ => some c) (fun k => ?_) (Ev.now _); rw [impl_twice.l0, if_neg (by omega)]
 | succ n ih =>
  intro i c hn hi
  have hnx := nx_lt (n := l.length) (i := i) (by omega); refine Ev.step (fun k => ?_) (ih (i + 1) _ (by omega) (by omega)); rw [impl_twice.l0, if_pos (by omega), if_pos (by omega), if_pos (by omega), if_neg (by omega)]; simp only [w1 (show i ≤ 140737488355328 by omega), tm2]; rw [if_pos (by omega), if_pos (by omega)]; rfl
theorem spec_tw_l (l : List S25) (h3 : 3 ≤ l.length ∧ l.length ≤ 10) (n : Nat) : ∀ (i : Nat) (c : Int), l.length - i = n → i ≤ l.length → Ev (fun k => spec_l03Twice.l0 k l c l (l.length : Int) (i : Int)) (twF l n i c) := by
 induction n with
 | zero =>
  intro i c hn hi
  refine Ev.step (f := fun _ => some c) (fun k => ?_) (Ev.now _); rw [spec_l03Twice.l0, if_neg (by omega)]
 | succ n ih =>
  intro i c hn hi
  have hnx := nx_lt (n := l.length) (i := i) (by omega); refine Ev.step (fun k => ?_) (ih (i + 1) _ (by omega) (by omega)); rw [spec_l03Twice.l0, if_pos (by omega), if_pos (by omega), if_pos (by omega), if_neg (by omega)]; simp only [w1 (show i ≤ 140737488355328 by omega), tm2]; rw [if_pos (by omega), if_pos (by omega)]; have : ∀ a u v : Int, wrap64 (wrap64 (a + u) - v) = wrap64 (a + wrap64 (u - v)) := by intro a u v; unfold wrap64; omega
  rw [this]; rfl
def twV (l : List S25) : Int := twF l l.length 0 0
theorem impl_tw (l : List S25) (h3 : 3 ≤ l.length ∧ l.length ≤ 10) : Ev (fun k => impl_twice.f k l) (twV l) := impl_tw_l l h3 l.length 0 0 (by omega) (by omega)
theorem spec_tw (l : List S25) (h3 : 3 ≤ l.length ∧ l.length ≤ 10) : Ev (fun k => spec_l03Twice.f k l) (twV l) := spec_tw_l l h3 l.length 0 0 (by omega) (by omega)
def mag (x : Int) : Int := mx x (wrap64 (-x))
def pairN (ks : List (Int × Int)) (n i k : Nat) : Bool := if wantV n i k = 1 then itCnt ks i k == 1 else (itCnt ks i k == 0 || itCnt ks i k == 2)
theorem s_tri_l2 (l : List S25) (h3 : 3 ≤ l.length ∧ l.length ≤ 10) (a : Int) (ks : List (Int × Int)) (x : List Int) (hx : ArrIs l.length ks x) (i : Nat) (hi : i < l.length) (R : Bool) (hR : Ev (fun k => spec_IsTriangulation.l1 k l (l.length : Int) a x ((i + 1 : Nat) : Int)) R) (d : Nat) :
  ∀ j : Nat, l.length - j = d → i < j → j ≤ l.length → Ev (fun k => spec_IsTriangulation.l2 k l (l.length : Int) a x (i : Int) (j : Int)) ((List.range' j d).all (pairN ks l.length i) && R) := by
 induction d with
 | zero =>
  intro j hd hij hj
  refine Ev.step (fun k => ?_) (show Ev _ _ from hR); rw [spec_IsTriangulation.l2, if_neg (by omega), w1 (by omega)]
 | succ d ih =>
  intro j hd hij hj
  have H := ih (j + 1) (by omega) (by omega) (by omega); rw [List.range'_succ, List.all_cons]; have hlt := cell_lt hi (show j < l.length by omega); have hj4 : ∀ b : Bool, (wantV l.length i j = if b = true then 1 else 0) → Ev (fun k => spec_IsTriangulation.j4 k l (l.length : Int) a x (i : Int) (j : Int) (itCnt ks i j) b) ((pairN ks l.length i j && (List.range' (j + 1) d).all (pairN ks l.length i)) && R) := by
   intro b hb
   by_cases c : pairN ks l.length i j = true
   ·rw [c, Bool.true_and]
    refine Ev.step (fun k => ?_) H; unfold pairN at c
    rw [spec_IsTriangulation.j4, w1 (by omega)]; cases b with
    | true =>
     rw [hb, if_pos (by rfl)] at c; rw [if_pos rfl, if_pos (beq_iff_eq.mp c)]
    | false =>
     rw [hb, if_neg (by simp), Bool.or_eq_true, beq_iff_eq, beq_iff_eq] at c; rw [if_neg (by simp)]; by_cases e : itCnt ks i j = 0
     ·rw [if_pos e]
     ·rw [if_neg e, if_pos (c.resolve_left e)]
   ·rw [show pairN ks l.length i j = false by simpa using c, Bool.false_and, Bool.false_and]
    refine Ev.step (f := fun _ => some false) (fun k => ?_) (Ev.now _); unfold pairN at c
    rw [spec_IsTriangulation.j4]; cases b with
    | true =>
     rw [hb, if_pos (by rfl)] at c; rw [if_pos rfl, if_neg (by simpa using c)]
    | false =>
     rw [hb, if_neg (by simp), Bool.or_eq_true, beq_iff_eq, beq_iff_eq] at c; rw [if_neg (by simp), if_neg (fun h => c (.inl h)), if_neg (fun h => c (.inr h))]
  refine Ev.step (f := fun k => if (j : Int) = ((i + 1 : Nat) : Int) then spec_IsTriangulation.j4 k l (l.length : Int) a x (i : Int) (j : Int) (itCnt ks i j) true else if (i : Int) = 0 then spec_IsTriangulation.j4 k l (l.length : Int) a x (i : Int) (j : Int) (itCnt ks i j) ((j : Int) == (l.length : Int) - 1) else spec_IsTriangulation.j4 k l (l.length : Int) a x (i : Int) (j : Int) (itCnt ks i j) false) (fun k => ?_) ?_
  ·rw [spec_IsTriangulation.l2, if_pos (by omega), mul_cell h3.2 hi (show j < l.length by omega), if_pos (by omega), if_pos (by rw [hx.len]; omega), hx.cnt i j hi (by omega), w1 (by omega), w64 (x := (l.length : Int) - 1) (by omega) (by omega)]
  ·by_cases c1 : j = i + 1
   ·simp only [if_pos (show (j : Int) = ((i + 1 : Nat) : Int) by omega)]
    exact hj4 true (by unfold wantV; rw [if_pos (Or.inl c1), if_pos rfl])
   ·simp only [if_neg (show ¬ (j : Int) = ((i + 1 : Nat) : Int) by omega)]
    by_cases c2 : i = 0
    ·simp only [if_pos (show (i : Int) = 0 by omega)]
     refine hj4 _ ?_; unfold wantV
     by_cases c3 : j + 1 = l.length
     ·rw [if_pos (Or.inr ⟨c2, c3⟩), if_pos (beq_iff_eq.mpr (by omega))]
     ·rw [if_neg (by omega), if_neg (by rw [beq_iff_eq]; omega)]
    ·simp only [if_neg (show ¬ (i : Int) = 0 by omega)]
     exact hj4 false (by unfold wantV; rw [if_neg (by omega), if_neg (by simp)])
def pairsB (ks : List (Int × Int)) (n i d : Nat) : Bool := (List.range' i d).all fun i => (List.range' (i + 1) (n - (i + 1))).all (pairN ks n i)
theorem s_tri_l1 (l : List S25) (h3 : 3 ≤ l.length ∧ l.length ≤ 10) (a : Int) (ks : List (Int × Int)) (x : List Int) (hx : ArrIs l.length ks x) (d : Nat) : ∀ i : Nat, l.length - i = d → i ≤ l.length → Ev (fun k => spec_IsTriangulation.l1 k l (l.length : Int) a x (i : Int)) (pairsB ks l.length i d && decide (a = mag (twV l))) := by
 unfold pairsB
 induction d with
 | zero =>
  intro i hd hi
  refine Ev.step (f := fun k => (spec_l03Twice.f k l).bind fun t => (spec_l04Mag.f t).bind fun u => some (a == u)) (fun k => ?_) (Ev.bind (spec_tw l h3) ?_)
  ·rw [spec_IsTriangulation.l1, if_neg (by omega)]
  ·exact Ev.now _
 | succ d ih =>
  intro i hd hi
  rw [List.range'_succ, List.all_cons, Bool.and_assoc]; refine Ev.step (fun k => ?_) (s_tri_l2 l h3 a ks x hx i (by omega) _ (ih (i + 1) (by omega) (by omega)) (l.length - (i + 1)) (i + 1) rfl (by omega) (by omega)); rw [spec_IsTriangulation.l1, if_pos (by omega), w1 (by omega)]
theorem triOk_of {l : List S25} {t : List Int} (h : triOk l t = true) : itOkB (l.length : Int) t = true ∧ crT l t ≠ 0 := by
 unfold triOk at h
 rw [Bool.and_eq_true, Bool.not_eq_true', decide_eq_false_iff_not] at h
 exact h
theorem ks_step {n : Nat} {ks : List (Int × Int)} (h : KsOk n ks) {t : List Int} (ht : itOkB (n : Int) t = true) : KsOk n (ks ++ itKeys t) := by
 obtain ⟨h1, h2, h3, h4, h5⟩ := okB_of ht
 refine ⟨fun q hq => ?_⟩
 rcases List.mem_append.mp hq with hq | hq
 ·exact h.ok q hq
 ·simp only [itKeys, List.mem_cons, List.not_mem_nil, or_false] at hq
  rcases hq with rfl | rfl | rfl
  ·exact ⟨h2, h3, by simp only; omega⟩
  ·exact ⟨by simp only; omega, h4, h5⟩
  ·exact ⟨h2, by simp only; omega, h5⟩
def triF (l : List S25) : Option (Int × List (Int × Int)) → Bool
 | none => false
 | some x => pairsB x.2 l.length 0 l.length && decide (x.1 = mag (twV l))
theorem s_tri_l0 (l : List S25) (h3 : 3 ≤ l.length ∧ l.length ≤ 10) (T : List (List Int)) (hT : T.length ≤ 10) (d : Nat) : ∀ (j : Nat) (a : Int) (ks : List (Int × Int)) (x : List Int), T.length - j = d → j ≤ T.length → ks.length ≤ 3 * j → ArrIs l.length ks x →
  Ev (fun k => spec_IsTriangulation.l0 k l (l.length : Int) a x T (T.length : Int) (j : Int)) (triF l (triR l (T.drop j) a ks)) := by
 induction d with
 | zero =>
  intro j a ks x hd hj hk hx
  rw [List.drop_of_length_le (by omega), triR]; refine Ev.step (fun k => ?_) (s_tri_l1 l h3 a ks x hx l.length 0 (by omega) (by omega)); rw [spec_IsTriangulation.l0, if_neg (by omega)]; rfl
 | succ d ih =>
  intro j a ks x hd hj hk hx
  have hlt : j < T.length := by omega
  rw [List.drop_eq_getElem_cons hlt, triR]; have hrd : rd_L2 T (j : Int) = T[j] := by simp [rd_L2, List.getD_eq_getElem?_getD, hlt]
  generalize T[j] = t at hrd
  by_cases c : triOk l t = true
  ·rw [if_pos c]
   obtain ⟨c1, c2⟩ := triOk_of c; have hz : szT l t ≠ 0 := fun h => c2 ((szT_zero l t).mp h)
   obtain ⟨h1, h2, h4, h5, h6⟩ := okB_of c1; obtain ⟨i0, e0⟩ := Int.eq_ofNat_of_zero_le h2; obtain ⟨i1, e1⟩ := Int.eq_ofNat_of_zero_le (show 0 ≤ rd t 1 by omega); obtain ⟨i2, e2⟩ := Int.eq_ofNat_of_zero_le (show 0 ≤ rd t 2 by omega); have a1 := arr_step hx (by omega) (i := i0) (k := i1) (by omega) (by omega); have a2 := arr_step a1 (by simp; omega) (i := i1) (k := i2) (by omega) (by omega); have a3 := arr_step a2 (by simp; omega) (i := i0) (k := i2) (by omega) (by omega); have H := ih (j + 1) (wrap64 (a + szT l t)) _ _ (by omega) (by omega) (by simp; omega) a3; have hke : itKeys t = [((i0 : Int), (i1 : Int)), ((i1 : Int), (i2 : Int)), ((i0 : Int), (i2 : Int))] := by unfold itKeys; rw [e0, e1, e2]
   have hkk : ks ++ itKeys t = ks ++ [((i0 : Int), (i1 : Int))] ++ [((i1 : Int), (i2 : Int))] ++ [((i0 : Int), (i2 : Int))] := by rw [hke]; simp
   rw [hkk]; have l01 := cell_lt (n := l.length) (i := i0) (k := i1) (by omega) (by omega); have l12 := cell_lt (n := l.length) (i := i1) (k := i2) (by omega) (by omega); have l02 := cell_lt (n := l.length) (i := i0) (k := i2) (by omega) (by omega); have hxl := hx.len; refine Ev.step (fun k => ?_) H; rw [spec_IsTriangulation.l0, if_pos (by omega), if_pos (by omega), if_pos (by omega), hrd, if_pos (by omega), if_pos (by omega), if_neg (by omega), if_pos (by omega), if_neg (by omega), if_pos (by omega), if_neg (by omega), if_neg (by omega), s_area c1, Option.bind_some, if_neg hz, Option.bind_some, e0, e1, e2, mul_cell h3.2 (show i0 < l.length by omega) (show i1 < l.length by omega), if_pos (by omega), if_pos (by omega), Option.bind_some, mul_cell h3.2 (show i1 < l.length by omega) (show i2 < l.length by omega), if_pos (by omega), if_pos (by omega), Option.bind_some, mul_cell h3.2 (show i0 < l.length by omega) (show i2 < l.length by omega), if_pos (by omega), if_pos (by omega), w1 (by omega)]; simp only [Int.toNat_natCast]
  ·rw [if_neg c]
   refine Ev.step (f := fun _ => some false) (fun k => ?_) (Ev.now _); rw [spec_IsTriangulation.l0, if_pos (by omega), if_pos (by omega), if_pos (by omega), hrd]; by_cases e1 : (t.length : Int) = 3
   ·rw [if_pos e1, if_pos (by omega)]
    by_cases e2 : rd t 0 < 0
    ·rw [if_pos e2]
    ·rw [if_neg e2, if_pos (by omega)]
     by_cases e3 : rd t 0 ≥ rd t 1
     ·rw [if_pos e3]
     ·rw [if_neg e3, if_pos (by omega)]
      by_cases e4 : rd t 1 ≥ rd t 2
      ·rw [if_pos e4]
      ·rw [if_neg e4]
       by_cases e5 : rd t 2 ≥ (l.length : Int)
       ·rw [if_pos e5]
       ·rw [if_neg e5]
        have ok : itOkB (l.length : Int) t = true := decide_eq_true ⟨e1, e2, e3, e4, e5⟩; rw [s_area ok, Option.bind_some]; have hz : szT l t = 0 := by
         refine (szT_zero l t).mpr ?_; unfold triOk at c
         rw [ok, Bool.true_and] at c; simpa using c
        rw [if_pos hz]
   ·rw [if_neg e1]
def triB (l : List S25) (T : List (List Int)) : Bool := polyB l && (decide (T.length + 2 = l.length) && triF l (triR l T 0 []))
theorem arr_zero (n : Nat) : ArrIs n [] (List.replicate (n * n) 0) := by
 refine ⟨by simp, fun i k hi hk => ?_⟩
 have := cell_lt hi hk
 generalize i * n + k = m at this ⊢
 generalize n * n = nn at this ⊢
 simp [rd, itCnt, List.getD_eq_getElem?_getD, List.getElem?_replicate, this]
theorem spec_tri (l : List S25) (T : List (List Int)) (hl : l.length ≤ 1048576) (hT : T.length ≤ 1048576) : Ev (fun k => spec_IsTriangulation.f k l T) (triB l T) := by
 unfold spec_IsTriangulation.f triB
 refine Ev.bind (spec_poly l) ?_
 cases hb : polyB l with
 | false =>
  simp only [Bool.false_and, Bool.false_eq_true, if_false]; refine Ev.step (f := fun _ => some false) (fun k => ?_) (Ev.now _); rw [spec_IsTriangulation.j0, if_pos rfl]
 | true =>
  have h3 := polyB_len hb; simp only [Bool.true_and, if_true]; rw [w64 (x := (l.length : Int) - 2) (by omega) (by omega)]; by_cases c : T.length + 2 = l.length
  ·rw [decide_eq_true c, Bool.true_and, show ((T.length : Int) != (l.length : Int) - 2) = false by rw [bne_eq_false_iff_eq]; omega]
   have hnn : (l.length : Int) * (l.length : Int) = ((l.length * l.length : Nat) : Int) := by simp
   have h100 : l.length * l.length ≤ 100 := Nat.le_trans (Nat.mul_le_mul h3.2 h3.2) (by decide); have H := s_tri_l0 l h3 T (by omega) T.length 0 0 [] _ (by omega) (by omega) (by simp) (arr_zero l.length); rw [List.drop_zero] at H; refine Ev.step (fun k => ?_) H; rw [spec_IsTriangulation.j0, if_neg (by simp), hnn, w64 (x := ((l.length * l.length : Nat) : Int)) (by omega) (by omega), if_pos (by omega), Int.toNat_natCast, if_pos (by omega)]; rfl
  ·rw [decide_eq_false c, Bool.false_and, show ((T.length : Int) != (l.length : Int) - 2) = true by rw [bne_iff_ne]; omega]
   refine Ev.step (f := fun _ => some false) (fun k => ?_) (Ev.now _); rw [spec_IsTriangulation.j0, if_pos rfl]
theorem triR_ks {l : List S25} : ∀ (T : List (List Int)) (a : Int) (ks : List (Int × Int)) {x : Int × List (Int × Int)}, KsOk l.length ks → triR l T a ks = some x → KsOk l.length x.2
 | [], a, ks, x, h, e => by
  obtain rfl := Option.some.inj (show some (a, ks) = some x from e); exact h
 | t :: T, a, ks, x, h, e => by
  rw [triR] at e; by_cases c : triOk l t = true
  ·rw [if_pos c] at e
   exact triR_ks T _ _ (ks_step h (triOk_of c).1) e
  ·rw [if_neg c] at e; cases e
theorem itSides_iff (ks : List (Int × Int)) (n : Nat) : ∀ m i, itSides ks n m i = true ↔ ∀ j, i ≤ j → j < i + m → itCnt ks (itLo n j) (itHi n j) = 1
 | 0, i => ⟨fun _ j h1 h2 => by omega, fun _ => rfl⟩
 | m + 1, i => by
  rw [itSides, Bool.and_eq_true, beq_iff_eq, itSides_iff ks n m (i + 1)]; refine ⟨fun ⟨h1, h2⟩ j hj hj2 => ?_, fun h => ⟨h i (by omega) (by omega), fun j h1 h2 => h j (by omega) (by omega)⟩⟩; by_cases e : j = i
  ·subst e; exact h1
  ·exact h2 j (by omega) (by omega)
theorem lo_hi {n j : Nat} (h3 : 3 ≤ n) (hj : j < n) : (j + 1 < n ∧ itLo n j = (j : Int) ∧ itHi n j = ((j + 1 : Nat) : Int)) ∨ (j + 1 = n ∧ itLo n j = 0 ∧ itHi n j = (j : Int)) := by
 unfold itLo itHi mn mx
 by_cases c : j + 1 < n
 ·left
  rw [Nat.mod_eq_of_lt c]; refine ⟨c, ?_, ?_⟩ <;> split <;> omega
 ·right
  have : j + 1 = n := by omega
  rw [this, Nat.mod_self]; refine ⟨rfl, ?_, ?_⟩ <;> split <;> omega
theorem want_side {n i k : Nat} (h3 : 3 ≤ n) (hik : i < k) (hk : k < n) : wantV n i k = 1 ↔ ∃ j, j < n ∧ itLo n j = (i : Int) ∧ itHi n j = (k : Int) := by
 unfold wantV
 constructor
 ·intro h
  by_cases c : k = i + 1 ∨ (i = 0 ∧ k + 1 = n)
  ·rcases c with c | c
   ·refine ⟨i, by omega, ?_⟩
    rcases lo_hi h3 (show i < n by omega) with ⟨_, h1, h2⟩ | ⟨h0, _, _⟩
    ·exact ⟨h1, by rw [h2, c]⟩
    ·omega
   ·refine ⟨k, hk, ?_⟩
    rcases lo_hi h3 hk with ⟨h0, _, _⟩ | ⟨_, h1, h2⟩
    ·omega
    ·exact ⟨by rw [h1]; omega, h2⟩
  ·rw [if_neg c] at h; omega
 ·rintro ⟨j, hj, h1, h2⟩
  rw [if_pos]; rcases lo_hi h3 hj with ⟨_, g1, g2⟩ | ⟨_, g1, g2⟩
  ·left; omega
  ·right; omega
theorem pairs_same {n : Nat} (h3 : 3 ≤ n) {ks : List (Int × Int)} (hk : KsOk n ks) : pairsB ks n 0 n = (itSides ks n n 0 && itRest ks n) := by
 rw [Bool.eq_iff_iff, Bool.and_eq_true, itSides_iff]
 unfold pairsB itRest
 simp only [List.all_eq_true, List.mem_range'_1]
 have hnone : ∀ a b : Int, itG ks n n a b = none ↔ (∃ j, j < n ∧ itLo n j = a ∧ itHi n j = b) ∨ itCnt ks a b = 0 := by
  intro a b
  unfold itG itF
  by_cases c : ((List.range n).any fun j => itLo n j == a && itHi n j == b) = true
  ·rw [if_pos c]
   refine ⟨fun _ => .inl ?_, fun _ => rfl⟩; obtain ⟨j, hj, e⟩ := List.any_eq_true.mp c; rw [Bool.and_eq_true, beq_iff_eq, beq_iff_eq] at e; exact ⟨j, List.mem_range.mp hj, e⟩
  ·rw [if_neg c]
   by_cases e : itCnt ks a b = 0
   ·rw [if_pos e]; exact ⟨fun _ => .inr e, fun _ => rfl⟩
   ·rw [if_neg e]
    refine ⟨(fun h => by cases h), fun h => ?_⟩; rcases h with ⟨j, hj, h1, h2⟩ | h
    ·exact absurd (List.any_eq_true.mpr ⟨j, List.mem_range.mpr hj, by rw [h1, h2]; simp⟩) c
    ·exact absurd h e
 constructor
 ·intro H
  refine ⟨fun j _ hj => ?_, fun q hq => ?_⟩
  ·rcases lo_hi h3 (show j < n by omega) with ⟨h0, h1, h2⟩ | ⟨h0, h1, h2⟩
   ·have := H j ⟨by omega, by omega⟩ (j + 1) ⟨by omega, by omega⟩
    unfold pairN at this
    rw [if_pos (by unfold wantV; rw [if_pos (.inl rfl)]), beq_iff_eq] at this; rw [h1, h2]; exact this
   ·have := H 0 ⟨by omega, by omega⟩ j ⟨by omega, by omega⟩
    unfold pairN at this
    rw [if_pos (by unfold wantV; rw [if_pos (.inr ⟨rfl, h0⟩)]), beq_iff_eq] at this; rw [h1, h2]; exact this
  ·obtain ⟨q0, q1, q2⟩ := hk.ok q hq
   have hpos := itCnt_pos hq; obtain ⟨i, ei⟩ := Int.eq_ofNat_of_zero_le q0; obtain ⟨k, ek⟩ := Int.eq_ofNat_of_zero_le (show 0 ≤ q.2 by omega); have hik : i < k := by omega
   have := H i ⟨by omega, by omega⟩ k ⟨by omega, by omega⟩; unfold pairN at this
   cases eg : itG ks n n q.1 q.2 with
   | none => rfl
   | some c =>
    have hns : ¬ wantV n i k = 1 := by
     rw [want_side h3 hik (by omega)]; rintro ⟨j, hj, h1, h2⟩
     have := (hnone q.1 q.2).mpr (.inl ⟨j, hj, by rw [h1, ei], by rw [h2, ek]⟩); rw [this] at eg; cases eg
    rw [if_neg hns, Bool.or_eq_true, beq_iff_eq, beq_iff_eq] at this; have hc : itCnt ks q.1 q.2 = 2 := by
     rw [ei, ek] at hpos ⊢; exact this.resolve_left hpos
    have : c = 2 := by
     unfold itG itF at eg
     split at eg
     ·cases eg
     ·(try rw [if_neg hpos] at eg)
      have := Option.some.inj eg; omega
    exact beq_iff_eq.mpr this
 ·intro ⟨H1, H2⟩ i hi k hk2
  unfold pairN
  by_cases c : wantV n i k = 1
  ·rw [if_pos c, beq_iff_eq]
   obtain ⟨j, hj, h1, h2⟩ := (want_side h3 (by omega) (by omega)).mp c; rw [← h1, ← h2]; exact H1 j (by omega) (by omega)
  ·rw [if_neg c, Bool.or_eq_true, beq_iff_eq, beq_iff_eq]
   by_cases e : itCnt ks i k = 0
   ·exact .inl e
   ·right
    have hm : ∃ q ∈ ks, q.1 = (i : Int) ∧ q.2 = (k : Int) := by
     unfold itCnt at e
     obtain ⟨q, hq⟩ := List.exists_mem_of_length_pos (show 0 < (ks.filter fun q => q.1 == (i : Int) && q.2 == (k : Int)).length by omega); obtain ⟨h1, h2⟩ := List.mem_filter.mp hq; rw [Bool.and_eq_true, beq_iff_eq, beq_iff_eq] at h2; exact ⟨q, h1, h2⟩
    obtain ⟨q, hq, q1, q2⟩ := hm; have := H2 q hq; rw [q1, q2] at this; cases eg : itG ks n n (i : Int) (k : Int) with
    | none =>
     rcases (hnone _ _).mp eg with ⟨j, hj, h1, h2⟩ | h
     ·exact absurd ((want_side h3 (by omega) (by omega)).mpr ⟨j, hj, h1, h2⟩) c
     ·exact absurd h e
    | some c2 =>
     rw [eg] at this; have h2 : c2 = 2 := beq_iff_eq.mp this; unfold itG itF at eg
     split at eg
     ·cases eg
     ·(try rw [if_neg e] at eg)
      have := Option.some.inj eg; omega
theorem ks_nil (n : Nat) : KsOk n [] := ⟨by simp⟩
theorem impl_tri (l : List S25) (T : List (List Int)) (hl : l.length ≤ 1048576) (hT : T.length ≤ 1048576) : Ev (fun k => impl_IsTriangulation.f k l T) (triB l T) := by
 unfold impl_IsTriangulation.f triB
 refine Ev.bind (impl_poly l hl) ?_
 cases hb : polyB l with
 | false =>
  simp only [Bool.false_and, Bool.false_eq_true, if_false]; exact Ev.now _
 | true =>
  have h3 := polyB_len hb; simp only [Bool.true_and, if_true]; rw [w64 (x := (l.length : Int) - 2) (by omega) (by omega)]; by_cases c : T.length + 2 = l.length
  ·rw [decide_eq_true c, Bool.true_and]
   simp only [if_pos (show (T.length : Int) = (l.length : Int) - 2 by omega), itRows_f, Option.bind_some]; cases e : triR l T 0 [] with
   | none => exact Ev.now _
   | some x =>
    have hk := triR_ks T 0 [] (ks_nil l.length) e; simp only [triF]; rw [pairs_same h3.1 hk]; cases e1 : itSides x.2 l.length l.length 0 with
    | false => simp only [Bool.false_and, Bool.false_eq_true, if_false]; exact Ev.now _
    | true =>
     simp only [Bool.true_and, if_true]; cases e2 : itRest x.2 l.length with
     | false => simp only [Bool.false_and, Bool.false_eq_true, if_false]; exact Ev.now _
     | true =>
      simp only [Bool.true_and, if_true]; exact Ev.bind (impl_tw l h3) (Ev.bind (Ev.now _) (Ev.now _))
  ·rw [decide_eq_false c, Bool.false_and]
   simp only [if_neg (show ¬ (T.length : Int) = (l.length : Int) - 2 by omega)]; exact Ev.now _

/-! the law's copies of a row of points -/
def cpy (l : List S73) : List S25 := l.map fun x => ⟨x.f0, x.f1⟩
theorem cpy_len (l : List S73) : (cpy l).length = l.length := by simp [cpy]
theorem rdLAW_nat (l : List S73) (i : Nat) (h : i < l.length) : rd_T73 l (i : Int) = l[i] := by simp [rd_T73, List.getD_eq_getElem?_getD, h]
theorem toPointS_l (l : List S73) (hl : l.length ≤ 1048576) (d : Nat) : ∀ (i : Nat) (x : List S25), l.length - i = d → i ≤ l.length → x.length = l.length → x.take i = (cpy l).take i → Ev (fun k => laws_toPointS.l0 k l x (i : Int)) (cpy l) := by
 induction d with
 | zero =>
  intro i x hd hi hx ht
  rw [List.take_of_length_le (by omega), List.take_of_length_le (by rw [cpy_len]; omega)] at ht; rw [← ht]; refine Ev.step (f := fun _ => some x) (fun k => ?_) (Ev.now _); rw [laws_toPointS.l0, if_neg (by omega)]
 | succ d ih =>
  intro i x hd hi hx ht
  have hlt : i < l.length := by omega
  have H := ih (i + 1) (x.set i ⟨l[i].f0, l[i].f1⟩) (by omega) (by omega) (by rw [List.length_set]; exact hx) (by
   rw [List.take_add_one, List.take_add_one, List.take_set_of_le (Nat.le_refl _), ht, List.getElem?_set_self (by omega)]; simp [cpy, hlt])
  refine Ev.step (fun k => ?_) H; rw [laws_toPointS.l0, if_pos (by omega), if_pos (by omega), rdLAW_nat l i hlt, laws_toPoint.f, Option.bind_some, if_pos (by omega), Int.toNat_natCast, w1 (by omega)]
theorem toPointS_f (l : List S73) (hl : l.length ≤ 1048576) : Ev (fun k => laws_toPointS.f k l) (cpy l) := by
 unfold laws_toPointS.f
 simp only [if_pos (show (0 : Int) ≤ (l.length : Int) by omega), Int.toNat_natCast, if_pos (show l.length ≤ 17592186044416 by omega)]
 exact toPointS_l l hl l.length 0 _ (by omega) (by omega) (by simp) (by simp)
theorem eqPS_l (l : List S25) (hl : l.length ≤ 1048576) (d : Nat) : ∀ i : Nat, l.length - i = d → i ≤ l.length → Ev (fun k => laws_eqPointS.l0 k l l (i : Int)) true := by
 induction d with
 | zero =>
  intro i hd hi
  refine Ev.step (f := fun _ => some true) (fun k => ?_) (Ev.now _); rw [laws_eqPointS.l0, if_neg (by omega)]
 | succ d ih =>
  intro i hd hi
  refine Ev.step (fun k => ?_) (ih (i + 1) (by omega) (by omega)); rw [laws_eqPointS.l0, if_pos (by omega), if_pos (by omega), if_pos (by omega), laws_eqPoint.f, if_pos rfl, if_pos rfl, Option.bind_some, if_pos rfl, w1 (by omega)]
theorem eqPS_f (l : List S25) (hl : l.length ≤ 1048576) : Ev (fun k => laws_eqPointS.f k l l) true := by
 unfold laws_eqPointS.f
 simp only [if_true]
 exact eqPS_l l hl l.length 0 (by omega) (by omega)
theorem szPS_f (l : List S73) (hl : l.length ≤ 2305843009213693952) : ∃ s, laws_szPointS.f l 1048576 = some s ∧ (s < 0 ∨ (s = 1048576 - (l.length : Int) ∧ l.length ≤ 1048576)) := by
 unfold laws_szPointS.f
 rw [w64 (x := 1048576 - (l.length : Int)) (by omega) (by omega)]
 by_cases c : 1048576 - (l.length : Int) < 0
 ·rw [if_pos c]; exact ⟨-1, rfl, .inl (by omega)⟩
 ·rw [if_neg c]; exact ⟨_, rfl, .inr ⟨rfl, by omega⟩⟩

/-! the same corners: the program's and the reference's tests are one, where the second polygon is a square -/
instance : DecidableEq S25 := fun a b => decidable_of_iff _ (eqPt_iff a b)
theorem ne_pt (p q : S25) : (!(p.f0 == q.f0) || (!(p.f1 == q.f1))) = !(decide (p = q)) := by
 have h := eqPt_iff p q
 unfold eqPt at h
 by_cases e : p = q
 ·subst e; simp
 ·rw [decide_eq_false e]
  have : ¬ ((p.f0 == q.f0 && p.f1 == q.f1) = true) := fun z => e (h.mp z)
  revert this
  cases (p.f0 == q.f0) <;> cases (p.f1 == q.f1) <;> simp
theorem drop_eq_iff {a b : List S25} {i : Nat} (ha : i < a.length) (hb : i < b.length) : decide (a.drop i = b.drop i) = (decide (a[i] = b[i]) && decide (a.drop (i + 1) = b.drop (i + 1))) := by
 rw [List.drop_eq_getElem_cons ha, List.drop_eq_getElem_cons hb, Bool.eq_iff_iff]
 simp only [List.cons.injEq, Bool.and_eq_true, decide_eq_true_eq]
theorem impl_eqL_l (a b : List S25) (h : a.length = b.length) (hl : a.length ≤ 1000) (d : Nat) : ∀ i : Nat, a.length - i = d → i ≤ a.length → Ev (fun k => impl_Point.l0 k a b (a.length : Int) (i : Int)) (decide (a.drop i = b.drop i)) := by
 induction d with
 | zero =>
  intro i hd hi
  rw [List.drop_of_length_le (by omega), List.drop_of_length_le (by omega), decide_eq_true rfl]; refine Ev.step (f := fun _ => some true) (fun k => ?_) (Ev.now _); rw [impl_Point.l0, if_neg (by omega)]
 | succ d ih =>
  intro i hd hi
  have hlt : i < a.length := by omega
  have hlt2 : i < b.length := by omega
  rw [drop_eq_iff hlt hlt2]; by_cases c : a[i] = b[i]
  ·rw [decide_eq_true c, Bool.true_and]
   refine Ev.step (fun k => ?_) (ih (i + 1) (by omega) (by omega)); rw [impl_Point.l0, if_pos (by omega), if_pos (by omega), if_pos (by omega), if_pos (by omega), rdT_nat a i hlt, rdT_nat b i hlt2, ne_pt, decide_eq_true c, if_neg (by simp), w1 (by omega)]
  ·rw [decide_eq_false c, Bool.false_and]
   refine Ev.step (f := fun _ => some false) (fun k => ?_) (Ev.now _); rw [impl_Point.l0, if_pos (by omega), if_pos (by omega), if_pos (by omega), if_pos (by omega), rdT_nat a i hlt, rdT_nat b i hlt2, ne_pt, decide_eq_false c, if_pos (by rfl)]
theorem impl_eqL (a b : List S25) (hl : a.length ≤ 1000) : Ev (fun k => impl_Point.f k a b) (decide (a = b)) := by
 unfold impl_Point.f
 by_cases h : a.length = b.length
 ·simp only [if_pos (show (a.length : Int) = (b.length : Int) by omega)]
  have := impl_eqL_l a b h hl a.length 0 (by omega) (by omega); simpa using this
 ·simp only [if_neg (show ¬ (a.length : Int) = (b.length : Int) by omega)]
  rw [decide_eq_false (fun e => h (by rw [e]))]; exact Ev.now _
theorem spec_eqL_l (a b : List S25) (h : a.length = b.length) (hl : a.length ≤ 1000) (d : Nat) : ∀ i : Nat, a.length - i = d → i ≤ a.length → Ev (fun k => spec_l03Equal.l0 k b a (a.length : Int) (i : Int)) (decide (a.drop i = b.drop i)) := by
 induction d with
 | zero =>
  intro i hd hi
  rw [List.drop_of_length_le (by omega), List.drop_of_length_le (by omega), decide_eq_true rfl]; refine Ev.step (f := fun _ => some true) (fun k => ?_) (Ev.now _); rw [spec_l03Equal.l0, if_neg (by omega)]
 | succ d ih =>
  intro i hd hi
  have hlt : i < a.length := by omega
  have hlt2 : i < b.length := by omega
  rw [drop_eq_iff hlt hlt2]; by_cases c : a[i] = b[i]
  ·rw [decide_eq_true c, Bool.true_and]
   refine Ev.step (fun k => ?_) (ih (i + 1) (by omega) (by omega)); rw [spec_l03Equal.l0, if_pos (by omega), if_pos (by omega), if_pos (by omega), if_pos (by omega), rdT_nat a i hlt, rdT_nat b i hlt2, ne_pt, decide_eq_true c, if_neg (by simp), w1 (by omega)]
  ·rw [decide_eq_false c, Bool.false_and]
   refine Ev.step (f := fun _ => some false) (fun k => ?_) (Ev.now _); rw [spec_l03Equal.l0, if_pos (by omega), if_pos (by omega), if_pos (by omega), if_pos (by omega), rdT_nat a i hlt, rdT_nat b i hlt2, ne_pt, decide_eq_false c, if_pos (by rfl)]
theorem spec_eqL (a b : List S25) (hl : a.length ≤ 1000) : Ev (fun k => spec_l03Equal.f k a b) (decide (a = b)) := by
 unfold spec_l03Equal.f
 by_cases h : a.length = b.length
 ·simp only [if_pos (show (a.length : Int) = (b.length : Int) by omega)]
  have := spec_eqL_l a b h hl a.length 0 (by omega) (by omega); simpa using this
 ·simp only [if_neg (show ¬ (a.length : Int) = (b.length : Int) by omega)]
  rw [decide_eq_false (fun e => h (by rw [e]))]; exact Ev.now _
/-! the corners that are not straight -/
def pv (n i : Nat) : Nat := (i + n - 1) % n
theorem pv_lt {n i : Nat} (h : 0 < n) : pv n i < n := Nat.mod_lt _ h
def kpI (l : List S25) (i : Nat) : Bool := !onB (pt l (pv l.length i)) (pt l (nx l.length i)) (pt l i)
def kpS (l : List S25) (i : Nat) : Bool := !decide (crw (pt l (pv l.length i)) (pt l i) (pt l (nx l.length i)) = 0)
def strL (kp : Nat → Bool) (l : List S25) (i m : Nat) : List S25 := ((List.range' i m).filter kp).map (pt l)
theorem strL_len (kp : Nat → Bool) (l : List S25) (i m : Nat) : (strL kp l i m).length ≤ m := by
 unfold strL
 rw [List.length_map]
 exact Nat.le_trans (List.length_filter_le _ _) (by simp)
theorem tmp_ {n i : Nat} (hn : 1 ≤ n) (hl : n ≤ 1000) (hi : i ≤ 1000) : Int.tmod (wrap64 ((wrap64 ((i : Int) + (n : Int))) - 1)) (n : Int) = ((pv n i : Nat) : Int) := by
 rw [w64 (x := (i : Int) + (n : Int)) (by omega) (by omega), w64 (by omega) (by omega), show (i : Int) + (n : Int) - 1 = ((i + n - 1 : Nat) : Int) by omega]
 exact (Int.ofNat_tmod _ _).symm
theorem impl_str_l (l : List S25) (h3 : 3 ≤ l.length ∧ l.length ≤ 10) (m : Nat) : ∀ (i : Nat) (acc : List S25), i + m = l.length → acc.length ≤ i → Ev (fun k => impl_straightened.l0 k l (l.length : Int) acc l (l.length : Int) (i : Int)) (acc ++ strL (kpI l) l i m) := by
 induction m with
 | zero =>
  intro i acc hi ha
  refine Ev.step (f := fun _ => some acc) (fun k => ?_) (by rw [show strL (kpI l) l i 0 = [] from rfl, List.append_nil]; exact Ev.now _); rw [impl_straightened.l0, if_neg (by omega)]
 | succ m ih =>
  intro i acc hi ha
  have hnx := nx_lt (n := l.length) (i := i) (by omega); have hpv := pv_lt (n := l.length) (i := i) (by omega); have e : strL (kpI l) l i (m + 1) = (if kpI l i = true then [pt l i] else []) ++ strL (kpI l) l (i + 1) m := by
   unfold strL
   rw [List.range'_succ, List.filter_cons]; split <;> simp
  have h0 : ∀ k, impl_straightened.l0 (k + 1) l (l.length : Int) acc l (l.length : Int) (i : Int) = if onB (pt l (pv l.length i)) (pt l (nx l.length i)) (pt l i) = true then impl_straightened.l0 k l (l.length : Int) acc l (l.length : Int) ((i + 1 : Nat) : Int) else impl_straightened.l0 k l (l.length : Int) (acc ++ [pt l i]) l (l.length : Int) ((i + 1 : Nat) : Int) := by
   intro k
   rw [impl_straightened.l0, if_pos (by omega), if_pos (by omega), if_pos (by omega), if_neg (by omega)]; simp only [tmp_ (n := l.length) (i := i) (by omega) (by omega) (by omega), tm (n := l.length) (show i ≤ 1000 by omega)]; rw [if_pos (by omega), if_pos (by omega), if_pos (by omega), if_pos (by omega)]; show (impl_isOn.f (pt l (pv l.length i)).f0 (pt l (pv l.length i)).f1 (pt l (nx l.length i)).f0 (pt l (nx l.length i)).f1 (pt l i).f0 (pt l i).f1).bind _ = _
   rw [on_f, Option.bind_some, if_pos (show acc.length < 8796093022208 by omega), w1 (by omega)]; rfl
  rw [e]; by_cases c : onB (pt l (pv l.length i)) (pt l (nx l.length i)) (pt l i) = true
  ·rw [show kpI l i = false by unfold kpI; rw [c]; rfl, if_neg (by simp), List.nil_append]
   refine Ev.step (fun k => ?_) (ih (i + 1) acc (by omega) (by omega)); rw [h0, if_pos c]
  ·rw [show kpI l i = true by unfold kpI; rw [(Bool.not_eq_true _).mp c]; rfl, if_pos rfl]
   have H := ih (i + 1) (acc ++ [pt l i]) (by omega) (by simp; omega); rw [List.append_assoc] at H; refine Ev.step (fun k => ?_) H; rw [h0, if_neg c]
theorem impl_str (l : List S25) (h3 : 3 ≤ l.length ∧ l.length ≤ 10) : Ev (fun k => impl_straightened.f k l) (strL (kpI l) l 0 l.length) := by
 have := impl_str_l l h3 l.length 0 [] (by omega) (by simp)
 exact this
theorem spec_str_l (l : List S25) (h3 : 3 ≤ l.length ∧ l.length ≤ 10) (m : Nat) : ∀ (i : Nat) (acc : List S25), i + m = l.length → acc.length ≤ i → Ev (fun k => spec_l03Straight.l0 k l acc (l.length : Int) l (l.length : Int) (i : Int)) (acc ++ strL (kpS l) l i m) := by
 induction m with
 | zero =>
  intro i acc hi ha
  refine Ev.step (f := fun _ => some acc) (fun k => ?_) (by rw [show strL (kpS l) l i 0 = [] from rfl, List.append_nil]; exact Ev.now _); rw [spec_l03Straight.l0, if_neg (by omega)]
 | succ m ih =>
  intro i acc hi ha
  have hnx := nx_lt (n := l.length) (i := i) (by omega); have hpv := pv_lt (n := l.length) (i := i) (by omega); have e : strL (kpS l) l i (m + 1) = (if kpS l i = true then [pt l i] else []) ++ strL (kpS l) l (i + 1) m := by
   unfold strL
   rw [List.range'_succ, List.filter_cons]; split <;> simp
  have h0 : ∀ k, spec_l03Straight.l0 (k + 1) l acc (l.length : Int) l (l.length : Int) (i : Int) = if crw (pt l (pv l.length i)) (pt l i) (pt l (nx l.length i)) = 0 then spec_l03Straight.l0 k l acc (l.length : Int) l (l.length : Int) ((i + 1 : Nat) : Int) else spec_l03Straight.l0 k l (acc ++ [pt l i]) (l.length : Int) l (l.length : Int) ((i + 1 : Nat) : Int) := by
   intro k
   rw [spec_l03Straight.l0, if_pos (by omega), if_pos (by omega), if_pos (by omega), if_neg (by omega)]; simp only [tmp_ (n := l.length) (i := i) (by omega) (by omega) (by omega), tm (n := l.length) (show i ≤ 1000 by omega)]; rw [if_pos (by omega), if_pos (by omega), if_pos (by omega), if_pos (by omega)]; show (spec_l02Cross.f (pt l (pv l.length i)).f0 (pt l (pv l.length i)).f1 (pt l i).f0 (pt l i).f1 (pt l (nx l.length i)).f0 (pt l (nx l.length i)).f1).bind _ = _
   rw [s_cross_f, Option.bind_some, if_pos (show acc.length < 8796093022208 by omega), w1 (by omega)]; rfl
  rw [e]; by_cases c : crw (pt l (pv l.length i)) (pt l i) (pt l (nx l.length i)) = 0
  ·rw [show kpS l i = false by unfold kpS; rw [decide_eq_true c]; rfl, if_neg (by simp), List.nil_append]
   refine Ev.step (fun k => ?_) (ih (i + 1) acc (by omega) (by omega)); rw [h0, if_pos c]
  ·rw [show kpS l i = true by unfold kpS; rw [decide_eq_false c]; rfl, if_pos rfl]
   have H := ih (i + 1) (acc ++ [pt l i]) (by omega) (by simp; omega); rw [List.append_assoc] at H; refine Ev.step (fun k => ?_) H; rw [h0, if_neg c]
theorem spec_str (l : List S25) (h3 : 3 ≤ l.length ∧ l.length ≤ 10) : Ev (fun k => spec_l03Straight.f k l) (strL (kpS l) l 0 l.length) := by
 have := spec_str_l l h3 l.length 0 [] (by omega) (by simp)
 exact this
/-! a corner of a polygon is straight exactly if it lies between its neighbours -/
theorem seg_mid {a b c d : Int} (h : a * d = b * c) (h0 : 0 < a) (h1 : a ≤ c) : (0 ≤ b ∧ b ≤ d) ∨ (d ≤ b ∧ b ≤ 0) := by
 have hc : 0 < c := by omega
 by_cases hd : 0 ≤ d
 ·refine Or.inl ⟨?_, ?_⟩
  ·have h2 : 0 * c ≤ b * c := by rw [Int.zero_mul, ← h]; exact Int.mul_nonneg (by omega) hd
   exact Int.le_of_mul_le_mul_right h2 hc
  ·have h2 : b * c ≤ d * c := by rw [← h, Int.mul_comm d c]; exact Int.mul_le_mul_of_nonneg_right h1 hd
   exact Int.le_of_mul_le_mul_right h2 hc
 ·refine Or.inr ⟨?_, ?_⟩
  ·have h2 : d * c ≤ b * c := by
    rw [← h, Int.mul_comm d c]; have := Int.mul_le_mul_of_nonneg_right h1 (show 0 ≤ -d by omega); rw [Int.mul_neg, Int.mul_neg] at this; omega
   exact Int.le_of_mul_le_mul_right h2 hc
  ·have h2 : b * c ≤ 0 * c := by
    rw [Int.zero_mul, ← h]; have := Int.mul_nonneg (show 0 ≤ a by omega) (show 0 ≤ -d by omega); rw [Int.mul_neg] at this; omega
   exact Int.le_of_mul_le_mul_right h2 hc
theorem btw {x y p : Int} (h : (0 ≤ p - x ∧ p - x ≤ y - x) ∨ (y - x ≤ p - x ∧ p - x ≤ 0)) : mn x y ≤ p ∧ p ≤ mx x y := by
 unfold mn mx
 split <;> split <;> omega
def In40 (p : S25) : Prop := (0 ≤ p.f0 ∧ p.f0 ≤ 40) ∧ (0 ≤ p.f1 ∧ p.f1 ≤ 40)
theorem ptOk_in {p : S25} (h : ptOk p = true) : In40 p := by
 unfold ptOk at h
 rw [Bool.and_eq_true, decide_eq_true_eq, decide_eq_true_eq] at h
 exact h
theorem mul_small {x y : Int} (h0 : -40 ≤ x) (h1 : x ≤ 40) (h2 : -40 ≤ y) (h3 : y ≤ 40) : -1600 ≤ x * y ∧ x * y ≤ 1600 := by
 have a1 := Int.mul_nonneg (show 0 ≤ 40 - x by omega) (show 0 ≤ 40 - y by omega)
 have a2 := Int.mul_nonneg (show 0 ≤ 40 + x by omega) (show 0 ≤ 40 + y by omega)
 have a3 := Int.mul_nonneg (show 0 ≤ 40 - x by omega) (show 0 ≤ 40 + y by omega)
 have a4 := Int.mul_nonneg (show 0 ≤ 40 + x by omega) (show 0 ≤ 40 - y by omega)
 rw [Int.sub_mul, Int.mul_sub, Int.mul_sub] at a1
 rw [Int.add_mul, Int.mul_add, Int.mul_add] at a2
 rw [Int.sub_mul, Int.mul_add, Int.mul_add] at a3
 rw [Int.add_mul, Int.mul_sub, Int.mul_sub] at a4
 omega
def crI (a b p : S25) : Int := (b.f0 - a.f0) * (p.f1 - a.f1) - (b.f1 - a.f1) * (p.f0 - a.f0)
theorem crw_I {a b p : S25} (ha : In40 a) (hb : In40 b) (hp : In40 p) : crw a b p = crI a b p := by
 obtain ⟨⟨a1, a2⟩, a3, a4⟩ := ha
 obtain ⟨⟨b1, b2⟩, b3, b4⟩ := hb
 obtain ⟨⟨p1, p2⟩, p3, p4⟩ := hp
 unfold crw crI
 rw [w64 (x := b.f0 - a.f0) (by omega) (by omega), w64 (x := p.f1 - a.f1) (by omega) (by omega), w64 (x := b.f1 - a.f1) (by omega) (by omega), w64 (x := p.f0 - a.f0) (by omega) (by omega)]
 have h1 := mul_small (x := b.f0 - a.f0) (y := p.f1 - a.f1) (by omega) (by omega) (by omega) (by omega)
 have h2 := mul_small (x := b.f1 - a.f1) (y := p.f0 - a.f0) (by omega) (by omega) (by omega) (by omega)
 generalize (b.f0 - a.f0) * (p.f1 - a.f1) = u at *
 generalize (b.f1 - a.f1) * (p.f0 - a.f0) = v at *
 rw [w64 (x := u) (by omega) (by omega), w64 (x := v) (by omega) (by omega), w64 (by omega) (by omega)]
theorem cr_turn (a b p : S25) : crI a p b = - crI a b p := by
 unfold crI
 rw [Int.mul_comm (p.f0 - a.f0), Int.mul_comm (p.f1 - a.f1)]
 omega
theorem cr_ring (a b p : S25) : crI b p a = crI a b p := by
 unfold crI
 simp only [Int.sub_mul, Int.mul_sub]
 have h1 := Int.mul_comm p.f0 a.f1
 have h2 := Int.mul_comm p.f0 b.f1
 have h3 := Int.mul_comm b.f0 a.f1
 have h4 := Int.mul_comm p.f1 a.f0
 have h5 := Int.mul_comm p.f1 b.f0
 have h6 := Int.mul_comm b.f1 a.f0
 have h7 := Int.mul_comm b.f0 b.f1
 have h8 := Int.mul_comm a.f0 a.f1
 omega
theorem onB_of {a b p : S25} (h : crw a b p = 0) (h0 : mn a.f0 b.f0 ≤ p.f0 ∧ p.f0 ≤ mx a.f0 b.f0) (h1 : mn a.f1 b.f1 ≤ p.f1 ∧ p.f1 ≤ mx a.f1 b.f1) : onB a b p = true := by
 unfold onB
 rw [decide_eq_true h, decide_eq_true h0, decide_eq_true h1]
 rfl
theorem mid_on {P X N : S25} (hP : In40 P) (hX : In40 X) (hN : In40 N) (hPX : P ≠ X) (hXN : X ≠ N) (h : crw P X N = 0) (h1 : onB P X N = false) (h2 : onB X N P = false) : onB P N X = true := by
 have c0 : crI P X N = 0 := by rw [← crw_I hP hX hN]; exact h
 have c1 : crw X N P = 0 := by rw [crw_I hX hN hP, cr_ring]; exact c0
 have c2 : crw P N X = 0 := by rw [crw_I hP hN hX, cr_turn, c0]; rfl
 have c3 : (P.f0 - X.f0) * (N.f1 - X.f1) = (P.f1 - X.f1) * (N.f0 - X.f0) := by
  have : crI X P N = 0 := by rw [cr_turn, cr_ring, c0]; rfl
  unfold crI at this
  omega
 have c4 : crw P X N = 0 := h
 -- X lies on one side of P and N in some coordinate: then P or N lies between the others
 have key : ∀ {a b c d : Int}, a * d = b * c → (0 < a ∧ 0 < c) → ((0 ≤ a ∧ a ≤ c) ∧ ((0 ≤ b ∧ b ≤ d) ∨ (d ≤ b ∧ b ≤ 0))) ∨ ((0 ≤ c ∧ c ≤ a) ∧ ((0 ≤ d ∧ d ≤ b) ∨ (b ≤ d ∧ d ≤ 0))) := by
  intro a b c d hh ⟨g1, g2⟩
  by_cases e : a ≤ c
  ·exact Or.inl ⟨⟨by omega, e⟩, seg_mid hh g1 e⟩
  ·exact Or.inr ⟨⟨by omega, by omega⟩, seg_mid (by rw [Int.mul_comm, ← hh, Int.mul_comm]) g2 (by omega)⟩
 have bad1 : ¬ ((mn X.f0 N.f0 ≤ P.f0 ∧ P.f0 ≤ mx X.f0 N.f0) ∧ (mn X.f1 N.f1 ≤ P.f1 ∧ P.f1 ≤ mx X.f1 N.f1)) := fun z => by
  rw [onB_of c1 z.1 z.2] at h2; cases h2
 have bad2 : ¬ ((mn P.f0 X.f0 ≤ N.f0 ∧ N.f0 ≤ mx P.f0 X.f0) ∧ (mn P.f1 X.f1 ≤ N.f1 ∧ N.f1 ≤ mx P.f1 X.f1)) := fun z => by
  rw [onB_of c4 z.1 z.2] at h1; cases h1
 have sw : ∀ {x y p : Int}, mn x y ≤ p ∧ p ≤ mx x y → mn y x ≤ p ∧ p ≤ mx y x := by
  intro x y p h
  have e1 : mn y x = mn x y := by unfold mn; split <;> split <;> omega
  have e2 : mx y x = mx x y := by unfold mx; split <;> split <;> omega
  rw [e1, e2]; exact h
 have none : ∀ (s : Int), s = 1 ∨ s = -1 → ¬ (0 < s * (P.f0 - X.f0) ∧ 0 < s * (N.f0 - X.f0)) ∧ ¬ (0 < s * (P.f1 - X.f1) ∧ 0 < s * (N.f1 - X.f1)) := by
  intro s hs
  refine ⟨fun z => ?_, fun z => ?_⟩
  ·rcases key (a := s * (P.f0 - X.f0)) (b := s * (P.f1 - X.f1)) (c := s * (N.f0 - X.f0)) (d := s * (N.f1 - X.f1)) (by rcases hs with rfl | rfl <;> simp only [Int.one_mul, Int.neg_mul, Int.mul_neg, Int.neg_neg] <;> exact c3) z with ⟨y1, y2⟩ | ⟨y1, y2⟩
   ·exact bad1 ⟨btw (by rcases hs with rfl | rfl <;> omega), btw (by rcases hs with rfl | rfl <;> omega)⟩
   ·exact bad2 ⟨sw (btw (by rcases hs with rfl | rfl <;> omega)), sw (btw (by rcases hs with rfl | rfl <;> omega))⟩
  ·rcases key (a := s * (P.f1 - X.f1)) (b := s * (P.f0 - X.f0)) (c := s * (N.f1 - X.f1)) (d := s * (N.f0 - X.f0)) (by rcases hs with rfl | rfl <;> simp only [Int.one_mul, Int.neg_mul, Int.mul_neg, Int.neg_neg] <;> exact c3.symm) z with ⟨y1, y2⟩ | ⟨y1, y2⟩
   ·exact bad1 ⟨btw (by rcases hs with rfl | rfl <;> omega), btw (by rcases hs with rfl | rfl <;> omega)⟩
   ·exact bad2 ⟨sw (btw (by rcases hs with rfl | rfl <;> omega)), sw (btw (by rcases hs with rfl | rfl <;> omega))⟩
 have n1 := none 1 (Or.inl rfl)
 have n2 := none (-1) (Or.inr rfl)
 refine onB_of c2 ?_ ?_
 ·unfold mn mx; split <;> split <;> omega
 ·unfold mn mx; split <;> split <;> omega
theorem onB_self {a b : S25} : onB a b b = true := by
 refine onB_of ?_ ?_ ?_
 ·unfold crw
  rw [Int.mul_comm (wrap64 (b.f1 - a.f1))]; unfold wrap64
  omega
 ·unfold mn mx; split <;> split <;> omega
 ·unfold mn mx; split <;> split <;> omega
theorem touch_eq {a b c d : S25} (h : meetV a b c d = 1) : ∀ x ∈ shared a b c d, ∀ y ∈ shared a b c d, x = y := by
 have hl := addL_len (shared a b c d)
 unfold meetV at h
 by_cases c1 : (addL [] (shared a b c d)).length > 1
 ·rw [if_pos c1] at h; exact absurd h (by decide)
 ·rw [if_neg c1] at h
  by_cases c2 : (addL [] (shared a b c d)).length = 1
  ·exact (hl.2.mp c2).2
  ·rw [if_neg c2] at h
   split at h <;> exact absurd h (by decide)
theorem touch_mid {P X N : S25} (hPX : P ≠ X) (hXN : X ≠ N) (h : meetV P X X N = 1 ∨ meetV X N P X = 1) : onB P X N = false ∧ onB X N P = false := by
 have hX1 : onB P X X = true := onB_self
 rcases h with h | h
 ·have := touch_eq h
  have hx : X ∈ shared P X X N := by simp [shared, hX1]
  refine ⟨(Bool.not_eq_true _).mp fun z => ?_, (Bool.not_eq_true _).mp fun z => ?_⟩
  ·exact hXN (this X hx N (by simp [shared, z]))
  ·exact hPX (this P (by simp [shared, z]) X hx)
 ·have := touch_eq h
  have hx : X ∈ shared X N P X := by simp [shared, hX1]
  refine ⟨(Bool.not_eq_true _).mp fun z => ?_, (Bool.not_eq_true _).mp fun z => ?_⟩
  ·exact hXN (this X hx N (by simp [shared, z]))
  ·exact hPX (this P (by simp [shared, z]) X hx)
theorem kp_same {l : List S25} (h : polyB l = true) {i : Nat} (hi : i < l.length) : kpI l i = kpS l i := by
 have h3 := polyB_len h
 unfold polyB at h
 rw [Bool.and_eq_true, Bool.and_eq_true, Bool.and_eq_true] at h
 obtain ⟨_, hok, hne, hmt⟩ := h
 have hpt : ∀ j, j < l.length → In40 (pt l j) := fun j hj => by
  unfold pt
  rw [rdT_nat l j hj]; exact ptOk_in (List.all_eq_true.mp hok _ (List.getElem_mem hj))
 have hn : ∀ j, j < l.length → pt l j ≠ pt l (nx l.length j) := fun j hj e => by
  have := List.all_eq_true.mp hne j (List.mem_range.mpr hj); rw [(eqPt_iff _ _).mpr e] at this; cases this
 have hm : ∀ j k, j < k → k < l.length → meetsB l j k = true := fun j k hjk hk => List.all_eq_true.mp (List.all_eq_true.mp hmt j (List.mem_range.mpr (by omega))) k (by rw [List.mem_range'_1]; omega)
 have hpv := pv_lt (n := l.length) (i := i) (by omega)
 have hnx := nx_lt (n := l.length) (i := i) (by omega)
 have hpn : nx l.length (pv l.length i) = i := by
  unfold nx pv
  by_cases e : i = 0
  ·subst e
   rw [Nat.mod_eq_of_lt (show 0 + l.length - 1 < l.length by omega), show 0 + l.length - 1 + 1 = l.length by omega, Nat.mod_self]
  ·rw [show i + l.length - 1 = (i - 1) + l.length by omega, Nat.add_mod_right, Nat.mod_eq_of_lt (show i - 1 < l.length by omega), show i - 1 + 1 = i by omega, Nat.mod_eq_of_lt hi]
 have g1 := hn _ hpv
 rw [hpn] at g1
 have g2 := hn i hi
 have tch : meetV (pt l (pv l.length i)) (pt l i) (pt l i) (pt l (nx l.length i)) = 1 ∨ meetV (pt l i) (pt l (nx l.length i)) (pt l (pv l.length i)) (pt l i) = 1 := by
  by_cases e : i = 0
  ·subst e
   have hp0 : pv l.length 0 = l.length - 1 := by unfold pv; rw [Nat.mod_eq_of_lt (by omega)]; omega
   have := hm 0 (l.length - 1) (by omega) (by omega); unfold meetsB wantV at this
   rw [if_pos (Or.inr ⟨rfl, by omega⟩), ← hp0, hpn] at this; exact Or.inr (beq_iff_eq.mp this)
  ·have hp0 : pv l.length i = i - 1 := by unfold pv; rw [show i + l.length - 1 = (i - 1) + l.length by omega, Nat.add_mod_right, Nat.mod_eq_of_lt (by omega)]
   have := hm (i - 1) i (by omega) hi; unfold meetsB wantV at this
   rw [if_pos (Or.inl (by omega)), ← hp0, hpn] at this; exact Or.inl (beq_iff_eq.mp this)
 obtain ⟨t1, t2⟩ := touch_mid g1 g2 tch
 have iP := hpt _ hpv
 have iX := hpt _ hi
 have iN := hpt _ hnx
 unfold kpI kpS
 by_cases c : crw (pt l (pv l.length i)) (pt l i) (pt l (nx l.length i)) = 0
 ·rw [decide_eq_true c, mid_on iP iX iN g1 g2 c t1 t2]
 ·rw [decide_eq_false c]
  have : onB (pt l (pv l.length i)) (pt l (nx l.length i)) (pt l i) = false := by
   unfold onB
   rw [decide_eq_false (fun z => c ?_), Bool.false_and]; rw [crw_I iP iN iX, cr_turn] at z; rw [crw_I iP iX iN]; omega
  rw [this]
theorem str_same {l : List S25} (h : polyB l = true) : strL (kpI l) l 0 l.length = strL (kpS l) l 0 l.length := by
 unfold strL
 rw [List.filter_congr (fun i hi => kp_same h (by rw [List.mem_range'_1] at hi; omega))]

def rectL (d : Int) : List S25 := [⟨0, 0⟩, ⟨d, 0⟩, ⟨d, d⟩, ⟨0, d⟩]
theorem impl_rect (d : Int) : impl_RectangleOf.f d d = some (if 1 ≤ d ∧ d ≤ 40 then rectL d else []) := by
 unfold impl_RectangleOf.f
 rw [within_f, Option.bind_some]
 by_cases c : 1 ≤ d ∧ d ≤ 40
 ·rw [if_pos (decide_eq_true c), Option.bind_some, if_pos (decide_eq_true c), if_pos c]; rfl
 ·rw [if_neg (by simpa using c), if_neg c]
theorem spec_rect (d : Int) : spec_RectangleOf.f d d = some (if 1 ≤ d ∧ d ≤ 40 then rectL d else []) := by
 unfold spec_RectangleOf.f
 rw [l01In_f, Option.bind_some]
 by_cases c : 1 ≤ d ∧ d ≤ 40
 ·rw [if_pos (decide_eq_true c), Option.bind_some, if_pos (decide_eq_true c), if_pos c]; rfl
 ·rw [if_neg (by simpa using c), if_neg c]
theorem rect_kp : ∀ n : Nat, n < 41 → 1 ≤ n → (List.range' 0 4).filter (kpS (rectL (n : Int))) = [0, 1, 2, 3] := by decide +kernel
theorem rect_str {d : Int} (h : 1 ≤ d ∧ d ≤ 40) : strL (kpS (rectL d)) (rectL d) 0 4 = rectL d := by
 obtain ⟨n, rfl⟩ := Int.eq_ofNat_of_zero_le (show 0 ≤ d by omega)
 unfold strL
 rw [rect_kp n (by omega) (by omega)]
 rfl
theorem rot_f (a c : List S25) (hc : c.length = 4) (ha : a.length ≤ 1000) : ∀ m j, Ev (fun k => spRot k a c m j) ((List.range' j m).any fun i => decide (a = c.drop i ++ c.take i))
 | 0, j => Ev.now _
 | m + 1, j => by
  rw [List.range'_succ, List.any_cons]; refine Ev.bind (impl_eqL a (c.drop j ++ c.take j) ha) ?_; by_cases e : a = c.drop j ++ c.take j
  ·simp only [decide_eq_true e, if_true, Bool.true_or]; exact Ev.now _
  ·simp only [decide_eq_false e, Bool.false_eq_true, if_false, Bool.false_or]; exact rot_f a c hc ha m (j + 1)
def rotB (a c : List S25) : Bool := (List.range' 0 4).any fun i => decide (a = c.drop i ++ c.take i)
theorem out_f (a b t : List S25) (hb : b.length = 4) (ht : t.length = 4) (ha : a.length ≤ 1000) : Ev (fun k => spOut k a [b, t]) (rotB a b || rotB a t) := by
 have h1 := rot_f a b hb ha 4 0
 have h2 := rot_f a t ht ha 4 0
 unfold spOut
 rw [hb]
 refine Ev.bind h1 ?_
 show Ev _ (rotB a b || rotB a t)
 change Ev (fun k => if rotB a b = true then some true else spOut k a [t]) _
 cases rotB a b with
 | true => exact Ev.now _
 | false =>
  simp only [Bool.false_eq_true, if_false, Bool.false_or]; unfold spOut
  rw [ht]; refine Ev.bind h2 ?_; change Ev (fun k => if rotB a t = true then some true else spOut k a []) _
  cases rotB a t with
  | true => exact Ev.now _
  | false => exact Ev.now _
theorem turn_f (p q r s : S25) : Ev (fun k => spec_l03Turn.f k [p, q, r, s]) [p, s, r, q] := Ev.of (fun k => spec_l03Turn.mono _ k) (k := 5) (by simp [spec_l03Turn.f, spec_l03Turn.l0, rd_T25, wrap64])
theorem start_f (b : List S25) (hb : b.length = 4) (i : Nat) (hi : i ≤ 4) : spec_l03Start.f b (i : Int) = some (b.drop i ++ b.take i) := by
 unfold spec_l03Start.f
 have h1 : (b.drop i).length ≤ 4 := by rw [List.length_drop]; omega
 have h2 : (b.take i).length ≤ 4 := by rw [List.length_take]; omega
 simp only [Option.bind_some, if_pos (show (0 : Int) ≤ (i : Int) by omega), if_pos (show (i : Int) ≤ (b.length : Int) by omega), Int.toNat_natCast, List.nil_append, List.length_nil, Nat.zero_add]
 rw [if_pos (by omega), if_pos (by omega)]
theorem same_spec_l (a b : List S25) (hb : b.length = 4) (ha : a.length ≤ 1000) (m : Nat) : ∀ i : Nat, i + m = 4 → Ev (fun k => spec_SamePolygon.l0 k a b (b.length : Int) (i : Int)) ((List.range' i m).any fun i => decide (a = b.drop i ++ b.take i) || decide (a = tuRow (b.drop i ++ b.take i))) := by
 induction m with
 | zero =>
  intro i hi
  refine Ev.step (f := fun _ => some false) (fun k => ?_) (Ev.now _); rw [spec_SamePolygon.l0, if_neg (by omega)]
 | succ m ih =>
  intro i hi
  rw [List.range'_succ, List.any_cons]; have hL : (b.drop i ++ b.take i).length = 4 := by rw [List.length_append, List.length_drop, List.length_take]; omega
  obtain ⟨p, q, r, s, hc⟩ : ∃ p q r s, b.drop i ++ b.take i = [p, q, r, s] := by
   match b.drop i ++ b.take i, hL with
   | [p, q, r, s], _ => exact ⟨p, q, r, s, rfl⟩
  have h0 := start_f b hb i (by omega); rw [hc] at h0 ⊢; refine Ev.step (f := fun k => (spec_l03Equal.f k a [p, q, r, s]).bind fun t302 => if t302 = true then some true else (spec_l03Turn.f k [p, q, r, s]).bind fun t303 => (spec_l03Equal.f k a t303).bind fun t306 => if t306 = true then some true else spec_SamePolygon.l0 k a b (b.length : Int) ((i + 1 : Nat) : Int)) (fun k => ?_) ?_
  ·rw [spec_SamePolygon.l0, if_pos (by omega), h0, Option.bind_some, w1 (by omega)]
  ·refine Ev.bind (spec_eqL a [p, q, r, s] ha) ?_
   by_cases e : a = [p, q, r, s]
   ·simp only [decide_eq_true e, if_true, Bool.true_or]; exact Ev.now _
   ·simp only [decide_eq_false e, Bool.false_eq_true, if_false, Bool.false_or]
    refine Ev.bind (turn_f p q r s) (Ev.bind (spec_eqL a [p, s, r, q] ha) ?_); rw [show tuRow [p, q, r, s] = [p, s, r, q] from rfl]; by_cases e2 : a = [p, s, r, q]
    ·simp only [decide_eq_true e2, if_true, Bool.true_or]; exact Ev.now _
    ·simp only [decide_eq_false e2, Bool.false_eq_true, if_false, Bool.false_or]; exact ih (i + 1) (by omega)
theorem rot_same (a : List S25) (p q r s : S25) : ((List.range' 0 4).any fun i => decide (a = [p, q, r, s].drop i ++ [p, q, r, s].take i) || decide (a = tuRow ([p, q, r, s].drop i ++ [p, q, r, s].take i))) = (rotB a [p, q, r, s] || rotB a (tuRow [p, q, r, s])) := by
 show (decide (a = [p, q, r, s]) || decide (a = [p, s, r, q]) || (decide (a = [q, r, s, p]) || decide (a = [q, p, s, r]) || (decide (a = [r, s, p, q]) || decide (a = [r, q, p, s]) || (decide (a = [s, p, q, r]) || decide (a = [s, r, q, p]) || false)))) = ((decide (a = [p, q, r, s]) || (decide (a = [q, r, s, p]) || (decide (a = [r, s, p, q]) || (decide (a = [s, p, q, r]) || false)))) || (decide (a = [p, s, r, q]) || (decide (a = [s, r, q, p]) || (decide (a = [r, q, p, s]) || (decide (a = [q, p, s, r]) || false)))))
 generalize decide (a = [p, q, r, s]) = b1
 generalize decide (a = [p, s, r, q]) = b2
 generalize decide (a = [q, r, s, p]) = b3
 generalize decide (a = [q, p, s, r]) = b4
 generalize decide (a = [r, s, p, q]) = b5
 generalize decide (a = [r, q, p, s]) = b6
 generalize decide (a = [s, p, q, r]) = b7
 generalize decide (a = [s, r, q, p]) = b8
 revert b1 b2 b3 b4 b5 b6 b7 b8
 decide
def sameV (l : List S25) (d : Int) : Bool := polyB l && (decide (1 ≤ d ∧ d ≤ 40) && (polyB (rectL d) && (rotB (strL (kpS l) l 0 l.length) (rectL d) || rotB (strL (kpS l) l 0 l.length) (tuRow (rectL d)))))
theorem polyB_nil : polyB ([] : List S25) = false := rfl
theorem impl_same (l : List S25) (hl : l.length ≤ 1048576) (d : Int) : Ev (fun k => impl_SamePolygon.f k l (if 1 ≤ d ∧ d ≤ 40 then rectL d else [])) (sameV l d) := by
 unfold impl_SamePolygon.f sameV
 refine Ev.bind (impl_poly l hl) ?_
 cases hb : polyB l with
 | false => exact Ev.now _
 | true =>
  simp only [if_true, Bool.true_and]; have h3 := polyB_len hb; by_cases c : 1 ≤ d ∧ d ≤ 40
  ·simp only [if_pos c, decide_eq_true c, Bool.true_and]
   refine Ev.bind (impl_poly (rectL d) (by simp [rectL])) ?_; cases hb2 : polyB (rectL d) with
   | false => exact Ev.now _
   | true =>
    simp only [if_true, Bool.true_and]; refine Ev.bind (impl_str l h3) (Ev.bind (impl_str (rectL d) ⟨by simp [rectL], by simp [rectL]⟩) ?_); rw [str_same hb, str_same hb2, show (rectL d).length = 4 from rfl, rect_str c]; have ht : impl_turned.f (rectL d) = some (tuRow (rectL d)) := by unfold impl_turned.f; rw [if_pos (show (rectL d).length = 4 from rfl)]
    simp only [ht, Option.bind_some]; exact out_f _ _ _ rfl rfl (Nat.le_trans (strL_len _ _ _ _) (by omega))
  ·simp only [if_neg c, decide_eq_false c, Bool.false_and]
   refine Ev.bind (impl_poly [] (by simp)) ?_; rw [polyB_nil]; exact Ev.now _
theorem spec_same (l : List S25) (d : Int) : Ev (fun k => spec_SamePolygon.f k l (if 1 ≤ d ∧ d ≤ 40 then rectL d else [])) (sameV l d) := by
 unfold spec_SamePolygon.f sameV
 refine Ev.bind (spec_poly l) ?_
 cases hb : polyB l with
 | false =>
  simp only [Bool.false_and, Bool.false_eq_true, if_false]; refine Ev.step (f := fun _ => some false) (fun k => ?_) (Ev.now _); rw [spec_SamePolygon.j0, if_pos rfl]
 | true =>
  simp only [if_true, Bool.true_and]; have h3 := polyB_len hb; by_cases c : 1 ≤ d ∧ d ≤ 40
  ·simp only [if_pos c, decide_eq_true c, Bool.true_and]
   refine Ev.bind (spec_poly (rectL d)) ?_; cases hb2 : polyB (rectL d) with
   | false =>
    refine Ev.step (f := fun _ => some false) (fun k => ?_) (Ev.now _); rw [spec_SamePolygon.j0, if_pos (by rfl)]
   | true =>
    have hs := spec_str (rectL d) ⟨by simp [rectL], by simp [rectL]⟩; rw [show (rectL d).length = 4 from rfl, rect_str c] at hs; refine Ev.step (f := fun k => (spec_l03Straight.f k l).bind fun a => (spec_l03Straight.f k (rectL d)).bind fun b => spec_SamePolygon.l0 k a b (b.length : Int) 0) (fun k => ?_) (Ev.bind (spec_str l h3) (Ev.bind hs ?_))
    ·rw [spec_SamePolygon.j0, if_neg (by simp)]
    ·have := same_spec_l (strL (kpS l) l 0 l.length) (rectL d) rfl (Nat.le_trans (strL_len _ _ _ _) (by omega)) 4 0 rfl
     unfold rectL at this ⊢
     rw [rot_same] at this; rw [Bool.true_and]; exact this
  ·simp only [if_neg c, decide_eq_false c, Bool.false_and]
   refine Ev.bind (spec_poly []) ?_; rw [polyB_nil]; refine Ev.step (f := fun _ => some false) (fun k => ?_) (Ev.now _); rw [spec_SamePolygon.j0, if_pos (by rfl)]
theorem rdLL_nat (l : List (List Int)) (i : Nat) (h : i < l.length) : rd_L2 l (i : Int) = l[i] := by simp [rd_L2, List.getD_eq_getElem?_getD, h]
theorem tri_rows {l : List S25} : ∀ (T : List (List Int)) (a : Int) (ks : List (Int × Int)) {x : Int × List (Int × Int)}, triR l T a ks = some x → ∀ t ∈ T, itOkB (l.length : Int) t = true
 | [], a, ks, x, _ => by simp
 | t :: T, a, ks, x, e => by
  rw [triR] at e; by_cases c : triOk l t = true
  ·rw [if_pos c] at e
   intro u hu
   rcases List.mem_cons.mp hu with rfl | hu
   ·exact (triOk_of c).1
   ·exact tri_rows T _ _ e u hu
  ·rw [if_neg c] at e; cases e
theorem triB_rows {l : List S25} {T : List (List Int)} (h : triB l T = true) : (3 ≤ l.length ∧ l.length ≤ 10) ∧ T.length ≤ 10 ∧ ∀ t ∈ T, itOkB (l.length : Int) t = true := by
 unfold triB at h
 rw [Bool.and_eq_true, Bool.and_eq_true, decide_eq_true_eq] at h
 obtain ⟨h1, h2, h3⟩ := h
 have := polyB_len h1
 refine ⟨this, by omega, ?_⟩
 cases e : triR l T 0 [] with
 | none => rw [e] at h3; cases h3
 | some x => exact tri_rows T 0 [] e
theorem areas_f {l : List S25} : ∀ {T : List (List Int)}, (∀ t ∈ T, itOkB (l.length : Int) t = true) → ecAreas l T = some (T.map (szT l))
 | [], _ => rfl
 | t :: T, h => by
  rw [ecAreas, areas_f (fun u hu => h u (List.mem_cons_of_mem _ hu))]; have : ecArea l t = some (szT l t) := by
   unfold ecArea
   rw [if_pos (h t (List.mem_cons_self ..))]; rfl
  rw [this]; rfl
def equalV (d : Int) (l : List S25) (T : List (List Int)) : Bool := triB l T && (sameV l d && T.all fun t => szT l t == szT l (rd_L2 T 0))
theorem impl_equal (d : Int) (l : List S25) (hl : l.length ≤ 1048576) (T : List (List Int)) (hT : T.length ≤ 1048576) : Ev (fun k => impl_EqualCut.f k d l T) (equalV d l T) := by
 unfold impl_EqualCut.f equalV
 refine Ev.bind (impl_tri l T hl hT) ?_
 cases hb : triB l T with
 | false => exact Ev.now _
 | true =>
  obtain ⟨h3, hT2, hok⟩ := triB_rows hb; simp only [if_true, Bool.true_and, impl_rect, Option.bind_some]; refine Ev.bind (impl_same l hl d) ?_; cases sameV l d with
  | false => exact Ev.now _
  | true =>
   simp only [if_true, Bool.true_and, areas_f hok, Option.bind_some]; rw [List.all_map]; have : (fun t => szT l t == szT l (rd_L2 T 0)) = ((fun s => s == (T.map (szT l)).headD 0) ∘ szT l) ∨ T = [] := by
    cases T with
    | nil => exact Or.inr rfl
    | cons t T => exact Or.inl rfl
   rcases this with e | e
   ·rw [← e]; exact Ev.now _
   ·subst e; exact Ev.now _
theorem spec_equal_l (l : List S25) (T : List (List Int)) (hT : T.length ≤ 10) (hok : ∀ t ∈ T, itOkB (l.length : Int) t = true) (n : Nat) : ∀ j : Nat, T.length - j = n → j ≤ T.length → Ev (fun k => spec_EqualCut.l0 k l T T (T.length : Int) (j : Int)) ((T.drop j).all fun t => szT l t == szT l (rd_L2 T 0)) := by
 induction n with
 | zero =>
  intro j hn hj
  rw [List.drop_of_length_le (by omega), List.all_nil]; refine Ev.step (f := fun _ => some true) (fun k => ?_) (Ev.now _); rw [spec_EqualCut.l0, if_neg (by omega)]
 | succ n ih =>
  intro j hn hj
  have hlt : j < T.length := by omega
  have ok := hok _ (List.getElem_mem hlt); have ok0 : itOkB (l.length : Int) (rd_L2 T 0) = true := by
   rw [show (0 : Int) = ((0 : Nat) : Int) from rfl, rdLL_nat T 0 (by omega)]; exact hok _ (List.getElem_mem _)
  have hrd := rdLL_nat T j hlt; rw [List.drop_eq_getElem_cons hlt, List.all_cons]; generalize T[j] = t at ok hrd
  have h0 : ∀ k, spec_EqualCut.l0 (k + 1) l T T (T.length : Int) (j : Int) = if szT l t = szT l (rd_L2 T 0) then spec_EqualCut.l0 k l T T (T.length : Int) ((j + 1 : Nat) : Int) else some false := by
   intro k
   rw [spec_EqualCut.l0, if_pos (by omega), if_pos (by omega), if_pos (by omega), hrd, s_area ok, Option.bind_some, if_pos (by omega), s_area ok0, Option.bind_some, w1 (by omega)]
  by_cases c : szT l t = szT l (rd_L2 T 0)
  ·rw [beq_iff_eq.mpr c, Bool.true_and]
   refine Ev.step (fun k => ?_) (ih (j + 1) (by omega) (by omega)); rw [h0, if_pos c]
  ·rw [beq_eq_false_iff_ne.mpr c, Bool.false_and]
   refine Ev.step (f := fun _ => some false) (fun k => ?_) (Ev.now _); rw [h0, if_neg c]
theorem spec_equal (d : Int) (l : List S25) (hl : l.length ≤ 1048576) (T : List (List Int)) (hT : T.length ≤ 1048576) : Ev (fun k => spec_EqualCut.f k d l T) (equalV d l T) := by
 unfold spec_EqualCut.f equalV
 refine Ev.bind (spec_tri l T hl hT) ?_
 cases hb : triB l T with
 | false =>
  simp only [Bool.false_and, Bool.false_eq_true, if_false]; refine Ev.step (f := fun _ => some false) (fun k => ?_) (Ev.now _); rw [spec_EqualCut.j0, if_pos rfl]
 | true =>
  obtain ⟨h3, hT2, hok⟩ := triB_rows hb; simp only [if_true, Bool.true_and, spec_rect, Option.bind_some]; refine Ev.bind (spec_same l d) ?_; cases sameV l d with
  | false =>
   refine Ev.step (f := fun _ => some false) (fun k => ?_) (Ev.now _); rw [spec_EqualCut.j0, if_pos (by rfl)]
  | true =>
   have H := spec_equal_l l T hT2 hok T.length 0 (by omega) (by omega); rw [List.drop_zero] at H; rw [Bool.true_and]; refine Ev.step (fun k => ?_) H; rw [spec_EqualCut.j0, if_neg (by simp)]; rfl
theorem FnExactEqualCut : laws_FnExactEqualCut.Pure := by
 intro d l T hd _ hy hw hm _ hx
 obtain ⟨s, hs, hsz⟩ := szPS_f l (by omega)
 refine Ev.rounds (g := fun k => laws_FnExactEqualCut.f k d l T) ?_
 unfold laws_FnExactEqualCut.f
 rw [hs]
 simp only [Option.bind_some]
 rcases hsz with h | ⟨h, hl⟩
 ·simp only [if_pos h]
  exact Ev.now _
 ·simp only [if_neg (show ¬ s < 0 by omega)]
  obtain ⟨r, hr, hrz⟩ := szSS_any T hm (fun x h => (hx x h).1) s (by omega) (by omega); refine Ev.bind hr ?_; by_cases c : r < 0
  ·simp only [if_pos c]
   exact Ev.now _
  ·simp only [if_neg c]
   obtain ⟨hT, hTx⟩ := hrz (by omega); have A := toPointS_f l hl; have B := ev_toSS T hT hTx; have hcl := cpy_len l; refine Ev.bind A (Ev.bind B (Ev.bind (spec_equal d (cpy l) (by omega) T hT) (Ev.bind A (Ev.bind B (Ev.bind (impl_equal d (cpy l) (by omega) T hT) ?_))))); simp only [bne_self_eq_false, Bool.false_eq_true, if_false]; refine Ev.bind A (Ev.bind (eqPS_f (cpy l) (by omega)) ?_); simp only [if_true]; refine Ev.bind B (Ev.bind (ev_eqSS T hT hTx) ?_); simp only [if_true]; exact Ev.now _

end Go.Proofs.Ytihnhpohbpfkmaa.Pure
