/- The plain law behind the row of FnColors. -/
import Derived.Test.YtihnhpohbpfkmaaXFnColorsx15
namespace Go.Proofs.Ytihnhpohbpfkmaa.Pure
open Go.RowKit Go.WideShapes Go.Proofs.Ytihnhpohbpfkmaa.XFnColors Go.Proofs.YtihnhpohbpfkmaaW.PrintWords Go.Proofs.YtihnhpohbpfkmaaW.PrintLast
set_option linter.unusedVariables false
set_option linter.unusedSimpArgs false
theorem w64 {x : Int} (h0 : -9223372036854775808 ≤ x) (h1 : x ≤ 9223372036854775807) : wrap64 x = x := by
  unfold wrap64
  omega
theorem rd_get (l : List Int) (i : Nat) (h : i < l.length) : rd l (i : Int) = l[i] := by simp [rd, List.getD_eq_getElem?_getD, h]
theorem w1 {i : Nat} (h : i ≤ 140737488355328) : wrap64 ((i : Int) + 1) = ((i + 1 : Nat) : Int) := by
  unfold wrap64
  omega
theorem lt_t {i n : Nat} (h : i < n) : ((i : Int) < (n : Int)) = True := eq_true (by omega)
theorem lt_f {i n : Nat} (h : n ≤ i) : ((i : Int) < (n : Int)) = False := eq_false (by omega)
theorem nn_t (i : Nat) : (0 ≤ (i : Int)) = True := eq_true (by omega)
theorem within_f (a b c : Int) : impl_within.f a b c = some (decide (b ≤ a ∧ a ≤ c)) := by
  unfold impl_within.f
  by_cases h : a ≥ b
  · rw [if_pos h]; simp [show b ≤ a from h]
  · rw [if_neg h]; simp [show ¬ b ≤ a from h]
def crw (a b p : S25) : Int := wrap64 ((wrap64 ((wrap64 (b.f0 - a.f0)) * (wrap64 (p.f1 - a.f1)))) - (wrap64 ((wrap64 (b.f1 - a.f1)) * (wrap64 (p.f0 - a.f0)))))
def onB (a b p : S25) : Bool := decide (crw a b p = 0) && (decide (mn a.f0 b.f0 ≤ p.f0 ∧ p.f0 ≤ mx a.f0 b.f0) && decide (mn a.f1 b.f1 ≤ p.f1 ∧ p.f1 ≤ mx a.f1 b.f1))
def sgn (x : Int) : Int := if x > 0 then 1 else if x < 0 then -1 else 0
theorem cross_f (a b p : S25) : impl_cross.f a.f0 a.f1 b.f0 b.f1 p.f0 p.f1 = some (crw a b p) := rfl
theorem on_f (a b p : S25) : impl_isOn.f a.f0 a.f1 b.f0 b.f1 p.f0 p.f1 = some (onB a b p) := by
  unfold impl_isOn.f onB
  simp only [cross_f, Option.bind_some, within_f]
  by_cases h1 : crw a b p = 0
  · rw [if_pos h1]
    by_cases h2 : mn a.f0 b.f0 ≤ p.f0 ∧ p.f0 ≤ mx a.f0 b.f0
    · rw [if_pos (decide_eq_true h2)]; simp [h1, h2]
    · rw [if_neg (by simpa using h2)]; simp [h2]
  · rw [if_neg h1]; simp [h1]
theorem sign_f (x : Int) : impl_sign.f x = some (sgn x) := by
  unfold impl_sign.f sgn
  by_cases h : x > 0
  · rw [if_pos h, if_pos h]
  · rw [if_neg h, if_neg h]; split <;> rfl
theorem eqPt_iff (p q : S25) : eqPt p q = true ↔ p = q := by
  obtain ⟨a, b⟩ := p
  obtain ⟨c, d⟩ := q
  simp [eqPt]
def crossing (a b c d : S25) : Prop := wrap64 (sgn (crw a b c) * sgn (crw a b d)) < 0 ∧ wrap64 (sgn (crw c d a) * sgn (crw c d b)) < 0
instance (a b c d : S25) : Decidable (crossing a b c d) := by unfold crossing; infer_instance
def shared (a b c d : S25) : List S25 := ([c, d].filter (onB a b)) ++ ([a, b].filter (onB c d))
def addL (xs : List S25) : List S25 → List S25 := fun l => l.foldl addPt xs
def meetV (a b c d : S25) : Int :=
  if (addL [] (shared a b c d)).length > 1 then 3 else if (addL [] (shared a b c d)).length = 1 then 1 else if crossing a b c d then 2 else 0
theorem addPt_mem (xs : List S25) (p q : S25) : q ∈ addPt xs p ↔ q ∈ xs ∨ q = p := by
  unfold addPt
  by_cases h : xs.any (eqPt p) = true
  · rw [if_pos h]
    obtain ⟨x, hx, e⟩ := List.any_eq_true.mp h
    rw [eqPt_iff] at e
    subst e
    exact ⟨Or.inl, fun h => h.elim id (fun e => e ▸ hx)⟩
  · rw [if_neg h]; simp
theorem addPt_nodup (xs : List S25) (p : S25) (h : xs.Nodup) : (addPt xs p).Nodup := by
  unfold addPt
  by_cases c : xs.any (eqPt p) = true
  · rw [if_pos c]; exact h
  · rw [if_neg c]
    refine List.nodup_append.mpr ⟨h, by simp, fun x hx y hy e => c (List.any_eq_true.mpr ⟨x, hx, ?_⟩)⟩
    rw [eqPt_iff]
    simp only [List.mem_singleton] at hy
    rw [e, hy]
theorem addL_spec : ∀ (l xs : List S25), xs.Nodup → (addL xs l).Nodup ∧ ∀ q, q ∈ addL xs l ↔ q ∈ xs ∨ q ∈ l
  | [], xs, h => ⟨h, by simp [addL]⟩
  | p :: l, xs, h => by
    obtain ⟨h1, h2⟩ := addL_spec l (addPt xs p) (addPt_nodup xs p h)
    refine ⟨h1, fun q => ?_⟩
    show q ∈ addL (addPt xs p) l ↔ _
    rw [h2, addPt_mem]
    simp only [List.mem_cons]
    exact ⟨fun h => by rcases h with (h | h) | h <;> simp [h], fun h => by rcases h with h | h | h <;> simp [h]⟩
theorem addL_len (l : List S25) : (addL [] l = [] ↔ l = []) ∧ ((addL [] l).length = 1 ↔ l ≠ [] ∧ ∀ x ∈ l, ∀ y ∈ l, x = y) := by
  obtain ⟨h1, h2⟩ := addL_spec l [] List.nodup_nil
  have h3 : ∀ q, q ∈ addL [] l ↔ q ∈ l := fun q => by rw [h2]; simp
  refine ⟨⟨fun h => ?_, fun h => by subst h; rfl⟩, fun h => ?_, fun ⟨hn, he⟩ => ?_⟩
  · refine List.eq_nil_iff_forall_not_mem.mpr fun q hq => ?_
    rw [← h3, h] at hq
    simp at hq
  · obtain ⟨z, hz⟩ := List.length_eq_one_iff.mp h
    refine ⟨fun e => ?_, fun x hx y hy => ?_⟩
    · subst e; simp [addL] at h
    · rw [← h3, hz] at hx hy
      simp only [List.mem_singleton] at hx hy
      rw [hx, hy]
  · match hL : addL [] l, h1, h3 with
    | [], _, h3 =>
      exact absurd (List.eq_nil_iff_forall_not_mem.mpr fun q hq => by rw [← h3] at hq; simp at hq) hn
    | [z], _, _ => rfl
    | y :: z :: r, h1, h3 =>
      have hy := (h3 y).mp (by simp)
      have hz := (h3 z).mp (by simp)
      have e := he y hy z hz
      simp [e] at h1
theorem mtAll_f (a b : S25) : ∀ (l xs : List S25), mtAll (impl_meet.on a b) l xs = some (addL xs (l.filter (onB a b)))
  | [], xs => rfl
  | p :: l, xs => by
    show (impl_meet.on a b p).bind _ = _
    rw [show impl_meet.on a b p = some (onB a b p) from on_f a b p, Option.bind_some, mtAll_f a b l]
    by_cases h : onB a b p = true
    · rw [if_pos h, List.filter_cons_of_pos h]; rfl
    · rw [if_neg h, List.filter_cons_of_neg h]
theorem meet_f (a b c d : S25) : impl_meet.g a b c d = some (meetV a b c d) := by
  unfold impl_meet.g
  rw [mtAll_f, Option.bind_some, mtAll_f, Option.bind_some]
  have e : addL (addL [] ([c, d].filter (onB a b))) ([a, b].filter (onB c d)) = addL [] (shared a b c d) := by
    unfold addL shared
    rw [List.foldl_append]
  rw [e]
  unfold impl_meet.tail meetV
  simp only [cross_f, Option.bind_some, sign_f]
  by_cases h1 : (addL [] (shared a b c d)).length > 1
  · rw [if_pos (by omega), if_pos h1]
  · rw [if_neg (by omega), if_neg h1]
    by_cases h2 : (addL [] (shared a b c d)).length = 1
    · rw [if_pos (by omega), if_pos h2]
    · rw [if_neg (by omega), if_neg h2]
      by_cases h3 : wrap64 (sgn (crw a b c) * sgn (crw a b d)) < 0
      · rw [if_pos h3]
        by_cases h4 : wrap64 (sgn (crw c d a) * sgn (crw c d b)) < 0
        · rw [if_pos h4, if_pos ⟨h3, h4⟩]
        · rw [if_neg h4, if_neg (fun h => h4 h.2)]
      · rw [if_neg h3, if_neg (fun h => h3 h.1)]
theorem rdT_nat (l : List S25) (i : Nat) (h : i < l.length) : rd_T25 l (i : Int) = l[i] := by simp [rd_T25, List.getD_eq_getElem?_getD, h]
/-! a polygon: the program's and the reference's tests are one -/
def pt (l : List S25) (i : Nat) : S25 := rd_T25 l (i : Int)
def nx (n i : Nat) : Nat := (i + 1) % n
theorem nx_lt {n i : Nat} (h : 0 < n) : nx n i < n := Nat.mod_lt _ h
theorem tm {n i : Nat} (hi : i ≤ 1000) : Int.tmod (wrap64 ((i : Int) + 1)) (n : Int) = ((nx n i : Nat) : Int) := by
  rw [w1 (by omega)]
  exact (Int.ofNat_tmod _ _).symm
theorem tm2 {n i : Nat} : Int.tmod ((i + 1 : Nat) : Int) (n : Int) = ((nx n i : Nat) : Int) := (Int.ofNat_tmod _ _).symm
def wantV (n i k : Nat) : Int := if k = i + 1 ∨ (i = 0 ∧ k + 1 = n) then 1 else 0
def meetsB (l : List S25) (i k : Nat) : Bool := meetV (pt l i) (pt l (nx l.length i)) (pt l k) (pt l (nx l.length k)) == wantV l.length i k
def ptOk (p : S25) : Bool := decide (0 ≤ p.f0 ∧ p.f0 ≤ 40) && decide (0 ≤ p.f1 ∧ p.f1 ≤ 40)
theorem ptOk_f (p : S25) : impl_PointOk.f p.f0 p.f1 = some (ptOk p) := by
  unfold impl_PointOk.f ptOk
  rw [within_f, Option.bind_some]
  by_cases h : 0 ≤ p.f0 ∧ p.f0 ≤ 40
  · rw [if_pos (decide_eq_true h), within_f, Option.bind_some, decide_eq_true h, Bool.true_and]
  · rw [if_neg (by simpa using h), decide_eq_false h, Bool.false_and]
theorem drop_all {α : Type} {l : List α} {i : Nat} (f : α → Bool) (h : i < l.length) : (l.drop i).all f = (f l[i] && (l.drop (i + 1)).all f) := by
  rw [List.drop_eq_getElem_cons h, List.all_cons]
theorem arePoints_f (l : List S25) (hl : l.length ≤ 1000) (d : Nat) : ∀ i : Nat, l.length - i = d → i ≤ l.length → Ev (fun k => impl_arePoints.l0 k l (l.length : Int) (i : Int)) ((l.drop i).all ptOk) := by
  induction d with
  | zero =>
    intro i hd hi
    rw [List.drop_of_length_le (by omega), List.all_nil]
    refine Ev.step (f := fun _ => some true) (fun k => ?_) (Ev.now _)
    rw [impl_arePoints.l0, if_neg (by omega)]
  | succ d ih =>
    intro i hd hi
    have hlt : i < l.length := by omega
    rw [drop_all _ hlt]
    by_cases c : ptOk l[i] = true
    · rw [c, Bool.true_and]
      refine Ev.step (fun k => ?_) (ih (i + 1) (by omega) (by omega))
      rw [impl_arePoints.l0, if_pos (by omega), if_pos (by omega), if_pos (by omega), rdT_nat l i hlt, ptOk_f, Option.bind_some, if_pos c, w1 (by omega)]
    · rw [show ptOk l[i] = false by simpa using c, Bool.false_and]
      refine Ev.step (f := fun _ => some false) (fun k => ?_) (Ev.now _)
      rw [impl_arePoints.l0, if_pos (by omega), if_pos (by omega), if_pos (by omega), rdT_nat l i hlt, ptOk_f, Option.bind_some, if_neg c]
def pairB (l : List S25) (i k : Nat) : Bool := (!eqPt (pt l i) (pt l (i + 1))) && ((!eqPt (pt l k) (pt l (nx l.length k))) && (meetV (pt l i) (pt l (i + 1)) (pt l k) (pt l (nx l.length k)) == wantV l.length i k))
theorem poPair_f (l : List S25) (i k : Nat) : poPair l i k = some (pairB l i k) := by
  unfold poPair pairB pt nx wantV
  by_cases c1 : eqPt (rd_T25 l (i : Int)) (rd_T25 l ((i + 1 : Nat) : Int)) = true
  · rw [if_pos c1, c1]; rfl
  · rw [if_neg c1, show eqPt (rd_T25 l (i : Int)) (rd_T25 l ((i + 1 : Nat) : Int)) = false by simpa using c1]
    by_cases c2 : eqPt (rd_T25 l (k : Int)) (rd_T25 l (((k + 1) % l.length : Nat) : Int)) = true
    · rw [if_pos c2, c2]; rfl
    · rw [if_neg c2, show eqPt (rd_T25 l (k : Int)) (rd_T25 l (((k + 1) % l.length : Nat) : Int)) = false by simpa using c2, meet_f, Option.bind_some]
      rfl
theorem poInner_f (l : List S25) (i : Nat) : ∀ m k, poInner l i m k = some ((List.range' k m).all (pairB l i))
  | 0, k => rfl
  | m + 1, k => by
    rw [poInner, poPair_f, Option.bind_some, List.range'_succ, List.all_cons]
    by_cases c : pairB l i k = true
    · rw [if_pos c, c, Bool.true_and]; exact poInner_f l i m (k + 1)
    · rw [if_neg c, show pairB l i k = false by simpa using c, Bool.false_and]
theorem poOuter_f (l : List S25) : ∀ m i, i + m = l.length → poOuter l m i = some ((List.range' i m).all fun j => (List.range' (j + 1) (l.length - (j + 1))).all (pairB l j))
  | 0, i, _ => rfl
  | m + 1, i, h => by
    rw [poOuter, poInner_f, Option.bind_some, List.range'_succ, List.all_cons, show l.length - (i + 1) = m by omega]
    by_cases c : (List.range' (i + 1) m).all (pairB l i) = true
    · rw [if_pos c, c, Bool.true_and]; exact poOuter_f l m (i + 1) (by omega)
    · rw [if_neg c, (Bool.not_eq_true _).mp c, Bool.false_and]
def polyB (l : List S25) : Bool := decide (3 ≤ l.length ∧ l.length ≤ 10) && (l.all ptOk && (((List.range l.length).all fun i => !eqPt (pt l i) (pt l (nx l.length i))) && ((List.range l.length).all fun i => (List.range' (i + 1) (l.length - (i + 1))).all (meetsB l i))))
theorem poly_same (l : List S25) (h3 : 3 ≤ l.length) : ((List.range' 0 l.length).all fun j => (List.range' (j + 1) (l.length - (j + 1))).all (pairB l j)) = (((List.range l.length).all fun i => !eqPt (pt l i) (pt l (nx l.length i))) && ((List.range l.length).all fun i => (List.range' (i + 1) (l.length - (i + 1))).all (meetsB l i))) := by
  have nxe : ∀ i, i + 1 < l.length → nx l.length i = i + 1 := fun i hi => Nat.mod_eq_of_lt hi
  rw [Bool.eq_iff_iff]
  simp only [List.all_eq_true, Bool.and_eq_true, List.mem_range, List.mem_range'_1, pairB, meetsB, Bool.not_eq_true']
  constructor
  · intro H
    refine ⟨fun i hi => ?_, fun i hi k hk => ?_⟩
    · by_cases c : i + 1 < l.length
      · rw [nxe i c]
        exact (H i ⟨by omega, by omega⟩ (i + 1) ⟨by omega, by omega⟩).1
      · exact (H 0 ⟨by omega, by omega⟩ i ⟨by omega, by omega⟩).2.1
    · rw [nxe i (by omega)]
      exact (H i ⟨by omega, by omega⟩ k hk).2.2
  · intro ⟨H1, H2⟩ i hi k hk
    have := H2 i (by omega) k hk
    have h1 := H1 i (by omega)
    rw [nxe i (by omega)] at this h1
    exact ⟨h1, H1 k (by omega), this⟩
theorem impl_poly (l : List S25) (hl : l.length ≤ 1048576) : Ev (fun k => impl_PolygonOk.f k l) (polyB l) := by
  unfold impl_PolygonOk.f polyB
  by_cases c1 : l.length < 3
  · simp only [if_pos c1]
    rw [show decide (3 ≤ l.length ∧ l.length ≤ 10) = false from decide_eq_false (by omega), Bool.false_and]
    exact Ev.now _
  · by_cases c2 : l.length > 10
    · simp only [if_neg c1, if_pos c2]
      rw [show decide (3 ≤ l.length ∧ l.length ≤ 10) = false from decide_eq_false (by omega), Bool.false_and]
      exact Ev.now _
    · simp only [if_neg c1, if_neg c2]
      rw [show decide (3 ≤ l.length ∧ l.length ≤ 10) = true from decide_eq_true (by omega), Bool.true_and]
      refine Ev.bind (arePoints_f l (by omega) l.length 0 (by omega) (by omega)) ?_
      rw [List.drop_zero]
      by_cases c : l.all ptOk = true
      · simp only [if_pos c]
        rw [c, Bool.true_and, poOuter_f l l.length 0 (by omega), poly_same l (by omega)]
        exact Ev.now _
      · simp only [if_neg c]
        rw [show l.all ptOk = false by simpa using c, Bool.false_and]
        exact Ev.now _
theorem polyB_len {l : List S25} (h : polyB l = true) : 3 ≤ l.length ∧ l.length ≤ 10 := by
  unfold polyB at h
  rw [Bool.and_eq_true] at h
  exact of_decide_eq_true h.1
/-! triangles that make a polygon: the program's and the reference's tests are one -/
def crT (l : List S25) (t : List Int) : Int := crw (rd_T25 l (rd t 0)) (rd_T25 l (rd t 1)) (rd_T25 l (rd t 2))
def szT (l : List S25) (t : List Int) : Int := mx (crT l t) (wrap64 (-(crT l t)))
theorem okB_of {n : Int} {t : List Int} (h : itOkB n t = true) : t.length = 3 ∧ 0 ≤ rd t 0 ∧ rd t 0 < rd t 1 ∧ rd t 1 < rd t 2 ∧ rd t 2 < n := by
  have := of_decide_eq_true h
  omega
def triOk (l : List S25) (t : List Int) : Bool := itOkB (l.length : Int) t && !decide (crT l t = 0)
theorem itRow_f (l : List S25) (t : List Int) : itRow l t = some (if triOk l t = true then some (szT l t) else none) := by
  unfold itRow triOk
  by_cases e1 : (t.length : Int) = 3
  · rw [if_pos e1]
    by_cases e2 : rd t 0 < 0
    · rw [if_pos e2, show itOkB (l.length : Int) t = false from decide_eq_false (fun z => z.2.1 e2)]; rfl
    · rw [if_neg e2]
      by_cases e3 : rd t 0 ≥ rd t 1
      · rw [if_pos e3, show itOkB (l.length : Int) t = false from decide_eq_false (fun z => z.2.2.1 e3)]; rfl
      · rw [if_neg e3]
        by_cases e4 : rd t 1 ≥ rd t 2
        · rw [if_pos e4, show itOkB (l.length : Int) t = false from decide_eq_false (fun z => z.2.2.2.1 e4)]; rfl
        · rw [if_neg e4]
          by_cases e5 : rd t 2 ≥ (l.length : Int)
          · rw [if_pos e5, show itOkB (l.length : Int) t = false from decide_eq_false (fun z => z.2.2.2.2 e5)]; rfl
          · rw [if_neg e5, show itOkB (l.length : Int) t = true from decide_eq_true ⟨e1, e2, e3, e4, e5⟩, Bool.true_and]
            show (some (crT l t)).bind _ = _
            rw [Option.bind_some]
            by_cases e6 : crT l t = 0
            · rw [if_pos e6, decide_eq_true e6]; rfl
            · rw [if_neg e6, decide_eq_false e6]; rfl
  · rw [if_neg e1, show itOkB (l.length : Int) t = false from decide_eq_false (fun z => e1 z.1)]; rfl
def triR (l : List S25) : List (List Int) → Int → List (Int × Int) → Option (Int × List (Int × Int))
  | [], a, ks => some (a, ks)
  | t :: ts, a, ks => if triOk l t = true then triR l ts (wrap64 (a + szT l t)) (ks ++ itKeys t) else none
theorem itRows_f (l : List S25) : ∀ (ts : List (List Int)) (a : Int) (ks : List (Int × Int)), itRows l ts a ks = some (triR l ts a ks)
  | [], a, ks => rfl
  | t :: ts, a, ks => by
    rw [itRows, itRow_f, Option.bind_some, triR]
    by_cases c : triOk l t = true
    · rw [if_pos c, if_pos c]; exact itRows_f l ts _ _
    · rw [if_neg c, if_neg c]
structure KsOk (n : Nat) (ks : List (Int × Int)) : Prop where
  ok : ∀ q ∈ ks, 0 ≤ q.1 ∧ q.1 < q.2 ∧ q.2 < (n : Int)
def twF (l : List S25) : Nat → Nat → Int → Int
  | 0, _, c => c
  | m + 1, i, c => twF l m (i + 1) (wrap64 (c + wrap64 (wrap64 ((pt l i).f0 * (pt l (nx l.length i)).f1) - wrap64 ((pt l i).f1 * (pt l (nx l.length i)).f0))))
theorem impl_tw_l (l : List S25) (h3 : 3 ≤ l.length ∧ l.length ≤ 10) (n : Nat) : ∀ (i : Nat) (c : Int), l.length - i = n → i ≤ l.length → Ev (fun k => impl_twice.l0 k l c l (l.length : Int) (i : Int)) (twF l n i c) := by
  induction n with
  | zero =>
    intro i c hn hi
    refine Ev.step (f := fun _ => some c) (fun k => ?_) (Ev.now _)
    rw [impl_twice.l0, if_neg (by omega)]
  | succ n ih =>
    intro i c hn hi
    have hnx := nx_lt (n := l.length) (i := i) (by omega)
    refine Ev.step (fun k => ?_) (ih (i + 1) _ (by omega) (by omega))
    rw [impl_twice.l0, if_pos (by omega), if_pos (by omega), if_pos (by omega), if_neg (by omega)]
    simp only [w1 (show i ≤ 140737488355328 by omega), tm2]
    rw [if_pos (by omega), if_pos (by omega)]
    rfl
def twV (l : List S25) : Int := twF l l.length 0 0
theorem impl_tw (l : List S25) (h3 : 3 ≤ l.length ∧ l.length ≤ 10) : Ev (fun k => impl_twice.f k l) (twV l) := impl_tw_l l h3 l.length 0 0 (by omega) (by omega)
def mag (x : Int) : Int := mx x (wrap64 (-x))
def pairN (ks : List (Int × Int)) (n i k : Nat) : Bool := if wantV n i k = 1 then itCnt ks i k == 1 else (itCnt ks i k == 0 || itCnt ks i k == 2)
def pairsB (ks : List (Int × Int)) (n i d : Nat) : Bool := (List.range' i d).all fun i => (List.range' (i + 1) (n - (i + 1))).all (pairN ks n i)
theorem triOk_of {l : List S25} {t : List Int} (h : triOk l t = true) : itOkB (l.length : Int) t = true ∧ crT l t ≠ 0 := by
  unfold triOk at h
  rw [Bool.and_eq_true, Bool.not_eq_true', decide_eq_false_iff_not] at h
  exact h
theorem ks_step {n : Nat} {ks : List (Int × Int)} (h : KsOk n ks) {t : List Int} (ht : itOkB (n : Int) t = true) : KsOk n (ks ++ itKeys t) := by
  obtain ⟨h1, h2, h3, h4, h5⟩ := okB_of ht
  refine ⟨fun q hq => ?_⟩
  rcases List.mem_append.mp hq with hq | hq
  · exact h.ok q hq
  · simp only [itKeys, List.mem_cons, List.not_mem_nil, or_false] at hq
    rcases hq with rfl | rfl | rfl
    · exact ⟨h2, h3, by simp only; omega⟩
    · exact ⟨by simp only; omega, h4, h5⟩
    · exact ⟨h2, by simp only; omega, h5⟩
def triF (l : List S25) : Option (Int × List (Int × Int)) → Bool
  | none => false
  | some x => pairsB x.2 l.length 0 l.length && decide (x.1 = mag (twV l))
def triB (l : List S25) (T : List (List Int)) : Bool := polyB l && (decide (T.length + 2 = l.length) && triF l (triR l T 0 []))
theorem triR_ks {l : List S25} : ∀ (T : List (List Int)) (a : Int) (ks : List (Int × Int)) {x : Int × List (Int × Int)}, KsOk l.length ks → triR l T a ks = some x → KsOk l.length x.2
  | [], a, ks, x, h, e => by
    obtain rfl := Option.some.inj (show some (a, ks) = some x from e)
    exact h
  | t :: T, a, ks, x, h, e => by
    rw [triR] at e
    by_cases c : triOk l t = true
    · rw [if_pos c] at e
      exact triR_ks T _ _ (ks_step h (triOk_of c).1) e
    · rw [if_neg c] at e; cases e
theorem itSides_iff (ks : List (Int × Int)) (n : Nat) : ∀ m i, itSides ks n m i = true ↔ ∀ j, i ≤ j → j < i + m → itCnt ks (itLo n j) (itHi n j) = 1
  | 0, i => ⟨fun _ j h1 h2 => by omega, fun _ => rfl⟩
  | m + 1, i => by
    rw [itSides, Bool.and_eq_true, beq_iff_eq, itSides_iff ks n m (i + 1)]
    refine ⟨fun ⟨h1, h2⟩ j hj hj2 => ?_, fun h => ⟨h i (by omega) (by omega), fun j h1 h2 => h j (by omega) (by omega)⟩⟩
    by_cases e : j = i
    · subst e; exact h1
    · exact h2 j (by omega) (by omega)
theorem lo_hi {n j : Nat} (h3 : 3 ≤ n) (hj : j < n) : (j + 1 < n ∧ itLo n j = (j : Int) ∧ itHi n j = ((j + 1 : Nat) : Int)) ∨ (j + 1 = n ∧ itLo n j = 0 ∧ itHi n j = (j : Int)) := by
  unfold itLo itHi mn mx
  by_cases c : j + 1 < n
  · left
    rw [Nat.mod_eq_of_lt c]
    refine ⟨c, ?_, ?_⟩ <;> split <;> omega
  · right
    have : j + 1 = n := by omega
    rw [this, Nat.mod_self]
    refine ⟨rfl, ?_, ?_⟩ <;> split <;> omega
theorem want_side {n i k : Nat} (h3 : 3 ≤ n) (hik : i < k) (hk : k < n) : wantV n i k = 1 ↔ ∃ j, j < n ∧ itLo n j = (i : Int) ∧ itHi n j = (k : Int) := by
  unfold wantV
  constructor
  · intro h
    by_cases c : k = i + 1 ∨ (i = 0 ∧ k + 1 = n)
    · rcases c with c | c
      · refine ⟨i, by omega, ?_⟩
        rcases lo_hi h3 (show i < n by omega) with ⟨_, h1, h2⟩ | ⟨h0, _, _⟩
        · exact ⟨h1, by rw [h2, c]⟩
        · omega
      · refine ⟨k, hk, ?_⟩
        rcases lo_hi h3 hk with ⟨h0, _, _⟩ | ⟨_, h1, h2⟩
        · omega
        · exact ⟨by rw [h1]; omega, h2⟩
    · rw [if_neg c] at h; omega
  · rintro ⟨j, hj, h1, h2⟩
    rw [if_pos]
    rcases lo_hi h3 hj with ⟨_, g1, g2⟩ | ⟨_, g1, g2⟩
    · left; omega
    · right; omega
theorem pairs_same {n : Nat} (h3 : 3 ≤ n) {ks : List (Int × Int)} (hk : KsOk n ks) : pairsB ks n 0 n = (itSides ks n n 0 && itRest ks n) := by
  rw [Bool.eq_iff_iff, Bool.and_eq_true, itSides_iff]
  unfold pairsB itRest
  simp only [List.all_eq_true, List.mem_range'_1]
  have hnone : ∀ a b : Int, itG ks n n a b = none ↔ (∃ j, j < n ∧ itLo n j = a ∧ itHi n j = b) ∨ itCnt ks a b = 0 := by
    intro a b
    unfold itG itF
    by_cases c : ((List.range n).any fun j => itLo n j == a && itHi n j == b) = true
    · rw [if_pos c]
      refine ⟨fun _ => .inl ?_, fun _ => rfl⟩
      obtain ⟨j, hj, e⟩ := List.any_eq_true.mp c
      rw [Bool.and_eq_true, beq_iff_eq, beq_iff_eq] at e
      exact ⟨j, List.mem_range.mp hj, e⟩
    · rw [if_neg c]
      by_cases e : itCnt ks a b = 0
      · rw [if_pos e]; exact ⟨fun _ => .inr e, fun _ => rfl⟩
      · rw [if_neg e]
        refine ⟨(fun h => by cases h), fun h => ?_⟩
        rcases h with ⟨j, hj, h1, h2⟩ | h
        · exact absurd (List.any_eq_true.mpr ⟨j, List.mem_range.mpr hj, by rw [h1, h2]; simp⟩) c
        · exact absurd h e
  constructor
  · intro H
    refine ⟨fun j _ hj => ?_, fun q hq => ?_⟩
    · rcases lo_hi h3 (show j < n by omega) with ⟨h0, h1, h2⟩ | ⟨h0, h1, h2⟩
      · have := H j ⟨by omega, by omega⟩ (j + 1) ⟨by omega, by omega⟩
        unfold pairN at this
        rw [if_pos (by unfold wantV; rw [if_pos (.inl rfl)]), beq_iff_eq] at this
        rw [h1, h2]; exact this
      · have := H 0 ⟨by omega, by omega⟩ j ⟨by omega, by omega⟩
        unfold pairN at this
        rw [if_pos (by unfold wantV; rw [if_pos (.inr ⟨rfl, h0⟩)]), beq_iff_eq] at this
        rw [h1, h2]; exact this
    · obtain ⟨q0, q1, q2⟩ := hk.ok q hq
      have hpos := itCnt_pos hq
      obtain ⟨i, ei⟩ := Int.eq_ofNat_of_zero_le q0
      obtain ⟨k, ek⟩ := Int.eq_ofNat_of_zero_le (show 0 ≤ q.2 by omega)
      have hik : i < k := by omega
      have := H i ⟨by omega, by omega⟩ k ⟨by omega, by omega⟩
      unfold pairN at this
      cases eg : itG ks n n q.1 q.2 with
      | none => rfl
      | some c =>
        have hns : ¬ wantV n i k = 1 := by
          rw [want_side h3 hik (by omega)]
          rintro ⟨j, hj, h1, h2⟩
          have := (hnone q.1 q.2).mpr (.inl ⟨j, hj, by rw [h1, ei], by rw [h2, ek]⟩)
          rw [this] at eg; cases eg
        rw [if_neg hns, Bool.or_eq_true, beq_iff_eq, beq_iff_eq] at this
        have hc : itCnt ks q.1 q.2 = 2 := by
          rw [ei, ek] at hpos ⊢
          exact this.resolve_left hpos
        have : c = 2 := by
          unfold itG itF at eg
          split at eg
          · cases eg
          · (try rw [if_neg hpos] at eg)
            have := Option.some.inj eg
            omega
        exact beq_iff_eq.mpr this
  · intro ⟨H1, H2⟩ i hi k hk2
    unfold pairN
    by_cases c : wantV n i k = 1
    · rw [if_pos c, beq_iff_eq]
      obtain ⟨j, hj, h1, h2⟩ := (want_side h3 (by omega) (by omega)).mp c
      rw [← h1, ← h2]
      exact H1 j (by omega) (by omega)
    · rw [if_neg c, Bool.or_eq_true, beq_iff_eq, beq_iff_eq]
      by_cases e : itCnt ks i k = 0
      · exact .inl e
      · right
        have hm : ∃ q ∈ ks, q.1 = (i : Int) ∧ q.2 = (k : Int) := by
          unfold itCnt at e
          obtain ⟨q, hq⟩ := List.exists_mem_of_length_pos (show 0 < (ks.filter fun q => q.1 == (i : Int) && q.2 == (k : Int)).length by omega)
          obtain ⟨h1, h2⟩ := List.mem_filter.mp hq
          rw [Bool.and_eq_true, beq_iff_eq, beq_iff_eq] at h2
          exact ⟨q, h1, h2⟩
        obtain ⟨q, hq, q1, q2⟩ := hm
        have := H2 q hq
        rw [q1, q2] at this
        cases eg : itG ks n n (i : Int) (k : Int) with
        | none =>
          rcases (hnone _ _).mp eg with ⟨j, hj, h1, h2⟩ | h
          · exact absurd ((want_side h3 (by omega) (by omega)).mpr ⟨j, hj, h1, h2⟩) c
          · exact absurd h e
        | some c2 =>
          rw [eg] at this
          have h2 : c2 = 2 := beq_iff_eq.mp this
          unfold itG itF at eg
          split at eg
          · cases eg
          · (try rw [if_neg e] at eg)
            have := Option.some.inj eg
            omega
theorem ks_nil (n : Nat) : KsOk n [] := ⟨by simp⟩
theorem impl_tri (l : List S25) (T : List (List Int)) (hl : l.length ≤ 1048576) (hT : T.length ≤ 1048576) : Ev (fun k => impl_IsTriangulation.f k l T) (triB l T) := by
  unfold impl_IsTriangulation.f triB
  refine Ev.bind (impl_poly l hl) ?_
  cases hb : polyB l with
  | false =>
    simp only [Bool.false_and, Bool.false_eq_true, if_false]
    exact Ev.now _
  | true =>
    have h3 := polyB_len hb
    simp only [Bool.true_and, if_true]
    rw [w64 (x := (l.length : Int) - 2) (by omega) (by omega)]
    by_cases c : T.length + 2 = l.length
    · rw [decide_eq_true c, Bool.true_and]
      simp only [if_pos (show (T.length : Int) = (l.length : Int) - 2 by omega), itRows_f, Option.bind_some]
      cases e : triR l T 0 [] with
      | none => exact Ev.now _
      | some x =>
        have hk := triR_ks T 0 [] (ks_nil l.length) e
        simp only [triF]
        rw [pairs_same h3.1 hk]
        cases e1 : itSides x.2 l.length l.length 0 with
        | false => simp only [Bool.false_and, Bool.false_eq_true, if_false]; exact Ev.now _
        | true =>
          simp only [Bool.true_and, if_true]
          cases e2 : itRest x.2 l.length with
          | false => simp only [Bool.false_and, Bool.false_eq_true, if_false]; exact Ev.now _
          | true =>
            simp only [Bool.true_and, if_true]
            exact Ev.bind (impl_tw l h3) (Ev.bind (Ev.now _) (Ev.now _))
    · rw [decide_eq_false c, Bool.false_and]
      simp only [if_neg (show ¬ (T.length : Int) = (l.length : Int) - 2 by omega)]
      exact Ev.now _
def In64 (d : Int) : Prop := 1 ≤ d ∧ d ≤ 9
def P64 (p : S25) : Prop := (0 ≤ p.f0 ∧ p.f0 ≤ 9) ∧ (0 ≤ p.f1 ∧ p.f1 ≤ 9)
def hvN (n : Nat) : Nat := if n = 0 then 100 else if n % 2 = 1 then 0 else if n % 4 = 2 then 1 else if n % 8 = 4 then 2 else 3
def colN (d x y : Nat) : Int := if x > d ∨ y > d then -1 else if hvN x > hvN d ∧ hvN y > hvN d then 0 else if hvN x ≤ hvN y then 1 else 2
theorem col_small : ∀ d : Nat, d < 10 → ∀ x : Nat, x < 10 → ∀ y : Nat, y < 10 → 1 ≤ d → impl_ColorOf.f 8 (d : Int) (x : Int) (y : Int) = some (colN d x y) := by decide +kernel
theorem colN_in : ∀ d < 10, ∀ x < 10, ∀ y < 10, -1 ≤ colN d x y ∧ colN d x y ≤ 2 := by decide +kernel
def colV (d : Int) (p : S25) : Int := colN d.toNat p.f0.toNat p.f1.toNat
theorem col_impl {d : Int} {p : S25} (hd : In64 d) (hp : P64 p) : Ev (fun k => impl_ColorOf.f k d p.f0 p.f1) (colV d p) := by
  obtain ⟨h1, h2⟩ := hd
  obtain ⟨⟨h3, h4⟩, h5, h6⟩ := hp
  have := col_small d.toNat (by omega) p.f0.toNat (by omega) p.f1.toNat (by omega) (by omega)
  rw [Int.toNat_of_nonneg (by omega), Int.toNat_of_nonneg h3, Int.toNat_of_nonneg h5] at this
  exact Ev.of (fun k => impl_ColorOf.mono _ _ _ k) this
theorem colV_in {d : Int} {p : S25} (hd : In64 d) (hp : P64 p) : -1 ≤ colV d p ∧ colV d p ≤ 2 := by
  obtain ⟨h1, h2⟩ := hd
  obtain ⟨⟨h3, h4⟩, h5, h6⟩ := hp
  exact colN_in d.toNat (by omega) p.f0.toNat (by omega) p.f1.toNat (by omega)
def colsB (d : Int) (l : List S25) : Bool := l.all fun p => decide (0 ≤ colV d p)
theorem acAll_ev (d : Int) (hd : In64 d) : ∀ l : List S25, (∀ p ∈ l, P64 p) → Ev (fun k => acAll (fun p => impl_ColorOf.f k d p.f0 p.f1) l) (l.map (colV d))
  | [], _ => Ev.now _
  | p :: l, hp => Ev.bind (col_impl hd (hp p (by simp))) (Ev.bind (acAll_ev d hd l (fun q hq => hp q (by simp [hq]))) (Ev.now _))
theorem impl_has (d : Int) (hd : In64 d) (l : List S25) (hp : ∀ p ∈ l, P64 p) : Ev (fun k => impl_areColored.f k d l) (colsB d l) := by
  unfold impl_areColored.f
  refine Ev.bind (acAll_ev d hd l hp) ?_
  have e : (!(l.map (colV d)).any fun c => decide (c < 0)) = colsB d l := by
    unfold colsB
    rw [List.any_map, Bool.eq_iff_iff]
    simp only [Bool.not_eq_true', List.any_eq_false, List.all_eq_true, Function.comp, decide_eq_true_eq]
    exact ⟨fun h p hp => by have := h p hp; omega, fun h p hp => by have := h p hp; omega⟩
  rw [e]
  exact Ev.now _
/-! rainbows: three colors -/
theorem ev_eq_l (l m : List Int) (hl : l.length ≤ 1000) (he : l.length = m.length) (d : Nat) : ∀ i : Nat, l.length - i = d → i ≤ l.length → Ev (fun k => slices_Equal_int_int.l0 k l m (l.length : Int) (i : Int)) (decide (l.drop i = m.drop i)) := by
  induction d with
  | zero =>
    intro i hd hi
    rw [List.drop_of_length_le (by omega), List.drop_of_length_le (by omega)]
    refine Ev.step (f := fun _ => some true) (fun k => ?_) (Ev.now _)
    rw [slices_Equal_int_int.l0, if_neg (by omega)]
  | succ d ih =>
    intro i hd hi
    have h1 := List.drop_eq_getElem_cons (show i < l.length by omega)
    have h2 := List.drop_eq_getElem_cons (show i < m.length by omega)
    by_cases e : l[i]'(by omega) = m[i]'(by omega)
    · have : decide (l.drop i = m.drop i) = decide (l.drop (i + 1) = m.drop (i + 1)) := by rw [h1, h2]; simp only [List.cons.injEq, e, true_and]
      rw [this]
      refine Ev.step (fun k => ?_) (ih (i + 1) (by omega) (by omega))
      rw [slices_Equal_int_int.l0, if_pos (by omega), if_pos (by omega), if_pos (by omega), if_pos (by omega), rd_get l i (by omega), rd_get m i (by omega), if_pos e, w1 (by omega)]
    · have : decide (l.drop i = m.drop i) = false := by rw [h1, h2]; simp only [List.cons.injEq, e, false_and, decide_false]
      rw [this]
      refine Ev.step (f := fun _ => some false) (fun k => ?_) (Ev.now _)
      rw [slices_Equal_int_int.l0, if_pos (by omega), if_pos (by omega), if_pos (by omega), if_pos (by omega), rd_get l i (by omega), rd_get m i (by omega), if_neg e]
theorem ev_eq (l m : List Int) (hl : l.length ≤ 1000) : Ev (fun k => slices_Equal_int_int.f k l m) (decide (l = m)) := by
  unfold slices_Equal_int_int.f
  by_cases e : l.length = m.length
  · simp only [if_pos (show (l.length : Int) = (m.length : Int) by omega)]
    have := ev_eq_l l m hl e l.length 0 (by omega) (by omega)
    simpa using this
  · simp only [if_neg (show ¬ (l.length : Int) = (m.length : Int) by omega)]
    have : l ≠ m := fun h => e (by rw [h])
    rw [decide_eq_false this]
    exact Ev.now _
def rainB (x y z : Int) : Bool := decide (0 ≤ x ∧ 0 ≤ y ∧ 0 ≤ z ∧ x ≠ y ∧ y ≠ z ∧ x ≠ z)
theorem sort_rain (x y z : Int) (hx : -1 ≤ x ∧ x ≤ 2) (hy : -1 ≤ y ∧ y ≤ 2) (hz : -1 ≤ z ∧ z ≤ 2) : decide (([x, y, z].mergeSort fun a b => decide (a ≤ b)) = [0, 1, 2]) = rainB x y z := by
  unfold rainB
  rw [decide_eq_decide]
  have hp : ([x, y, z].mergeSort fun a b => decide (a ≤ b)).Perm [x, y, z] := List.mergeSort_perm _ _
  have hs : ([x, y, z].mergeSort fun a b => decide (a ≤ b)).Pairwise (fun a b => decide (a ≤ b) = true) := List.pairwise_mergeSort (fun a b c h1 h2 => by simp only [decide_eq_true_eq] at *; omega) (fun a b => by simp only [Bool.or_eq_true, decide_eq_true_eq]; omega) _
  constructor
  · intro h
    rw [h] at hp
    have m0 : (0 : Int) ∈ [x, y, z] := hp.mem_iff.mp (by simp)
    have m1 : (1 : Int) ∈ [x, y, z] := hp.mem_iff.mp (by simp)
    have m2 : (2 : Int) ∈ [x, y, z] := hp.mem_iff.mp (by simp)
    simp only [List.mem_cons, List.not_mem_nil, or_false] at m0 m1 m2
    omega
  · intro h
    have hl : ([x, y, z].mergeSort fun a b => decide (a ≤ b)).length = 3 := by rw [hp.length_eq]; rfl
    generalize [x, y, z].mergeSort (fun a b => decide (a ≤ b)) = s at hp hs hl
    match s, hl with
    | [a, b, c], _ =>
      simp only [List.pairwise_cons, List.mem_cons, List.not_mem_nil, or_false, forall_eq_or_imp, forall_eq, decide_eq_true_eq, List.Pairwise.nil, and_true, implies_true] at hs
      have ma : a ∈ [x, y, z] := hp.mem_iff.mp (by simp)
      have mb : b ∈ [x, y, z] := hp.mem_iff.mp (by simp)
      have mc : c ∈ [x, y, z] := hp.mem_iff.mp (by simp)
      have nd : [a, b, c].Nodup := hp.nodup_iff.mpr (by simp; omega)
      simp only [List.nodup_cons, List.mem_cons, List.not_mem_nil, or_false, not_or, not_false_eq_true, List.nodup_nil, and_true] at nd
      simp only [List.mem_cons, List.not_mem_nil, or_false] at ma mb mc
      have e0 : a = 0 := by omega
      have e1 : b = 1 := by omega
      have e2 : c = 2 := by omega
      rw [e0, e1, e2]
def isRain (d : Int) (a b c : S25) : Bool := rainB (colV d a) (colV d b) (colV d c)
theorem impl_rainbow {d : Int} {a b c : S25} (hd : In64 d) (ha : P64 a) (hb : P64 b) (hc : P64 c) : Ev (fun k => impl_IsRainbow.f k d a.f0 a.f1 b.f0 b.f1 c.f0 c.f1) (isRain d a b c) := by
  unfold impl_IsRainbow.f
  refine Ev.bind (col_impl hd ha) (Ev.bind (col_impl hd hb) (Ev.bind (col_impl hd hc) ?_))
  have hs : slices_Sort_int_int.f [colV d a, colV d b, colV d c] = some ([colV d a, colV d b, colV d c].mergeSort fun x y => decide (x ≤ y)) := by
    unfold slices_Sort_int_int.f
    rw [if_pos (by simp)]
  simp only [hs, Option.bind_some]
  have hl : ([colV d a, colV d b, colV d c].mergeSort fun x y => decide (x ≤ y)).length ≤ 1000 := by rw [List.length_mergeSort]; simp
  unfold isRain
  rw [← sort_rain _ _ _ (colV_in hd ha) (colV_in hd hb) (colV_in hd hc)]
  exact Ev.bind (ev_eq _ _ hl) (Ev.now _)
/-! the same corners: the program's and the reference's tests are one, where the second polygon is a square -/
instance : DecidableEq S25 := fun a b => decidable_of_iff _ (eqPt_iff a b)
theorem ne_pt (p q : S25) : (!(p.f0 == q.f0) || (!(p.f1 == q.f1))) = !(decide (p = q)) := by
  have h := eqPt_iff p q
  unfold eqPt at h
  by_cases e : p = q
  · subst e; simp
  · rw [decide_eq_false e]
    have : ¬ ((p.f0 == q.f0 && p.f1 == q.f1) = true) := fun z => e (h.mp z)
    revert this
    cases (p.f0 == q.f0) <;> cases (p.f1 == q.f1) <;> simp
theorem drop_eq_iff {a b : List S25} {i : Nat} (ha : i < a.length) (hb : i < b.length) : decide (a.drop i = b.drop i) = (decide (a[i] = b[i]) && decide (a.drop (i + 1) = b.drop (i + 1))) := by
  rw [List.drop_eq_getElem_cons ha, List.drop_eq_getElem_cons hb, Bool.eq_iff_iff]
  simp only [List.cons.injEq, Bool.and_eq_true, decide_eq_true_eq]
theorem impl_eqL_l (a b : List S25) (h : a.length = b.length) (hl : a.length ≤ 1000) (d : Nat) : ∀ i : Nat, a.length - i = d → i ≤ a.length → Ev (fun k => impl_Point_77.l0 k a b (a.length : Int) (i : Int)) (decide (a.drop i = b.drop i)) := by
  induction d with
  | zero =>
    intro i hd hi
    rw [List.drop_of_length_le (by omega), List.drop_of_length_le (by omega), decide_eq_true rfl]
    refine Ev.step (f := fun _ => some true) (fun k => ?_) (Ev.now _)
    rw [impl_Point_77.l0, if_neg (by omega)]
  | succ d ih =>
    intro i hd hi
    have hlt : i < a.length := by omega
    have hlt2 : i < b.length := by omega
    rw [drop_eq_iff hlt hlt2]
    by_cases c : a[i] = b[i]
    · rw [decide_eq_true c, Bool.true_and]
      refine Ev.step (fun k => ?_) (ih (i + 1) (by omega) (by omega))
      rw [impl_Point_77.l0, if_pos (by omega), if_pos (by omega), if_pos (by omega), if_pos (by omega), rdT_nat a i hlt, rdT_nat b i hlt2, ne_pt, decide_eq_true c, if_neg (by simp), w1 (by omega)]
    · rw [decide_eq_false c, Bool.false_and]
      refine Ev.step (f := fun _ => some false) (fun k => ?_) (Ev.now _)
      rw [impl_Point_77.l0, if_pos (by omega), if_pos (by omega), if_pos (by omega), if_pos (by omega), rdT_nat a i hlt, rdT_nat b i hlt2, ne_pt, decide_eq_false c, if_pos (by rfl)]
theorem impl_eqL (a b : List S25) (hl : a.length ≤ 1000) : Ev (fun k => impl_Point_77.f k a b) (decide (a = b)) := by
  unfold impl_Point_77.f
  by_cases h : a.length = b.length
  · simp only [if_pos (show (a.length : Int) = (b.length : Int) by omega)]
    have := impl_eqL_l a b h hl a.length 0 (by omega) (by omega)
    simpa using this
  · simp only [if_neg (show ¬ (a.length : Int) = (b.length : Int) by omega)]
    rw [decide_eq_false (fun e => h (by rw [e]))]
    exact Ev.now _
/-! the corners that are not straight -/
def pv (n i : Nat) : Nat := (i + n - 1) % n
theorem pv_lt {n i : Nat} (h : 0 < n) : pv n i < n := Nat.mod_lt _ h
def kpI (l : List S25) (i : Nat) : Bool := !onB (pt l (pv l.length i)) (pt l (nx l.length i)) (pt l i)
def kpS (l : List S25) (i : Nat) : Bool := !decide (crw (pt l (pv l.length i)) (pt l i) (pt l (nx l.length i)) = 0)
def strL (kp : Nat → Bool) (l : List S25) (i m : Nat) : List S25 := ((List.range' i m).filter kp).map (pt l)
theorem strL_len (kp : Nat → Bool) (l : List S25) (i m : Nat) : (strL kp l i m).length ≤ m := by
  unfold strL
  rw [List.length_map]
  exact Nat.le_trans (List.length_filter_le _ _) (by simp)
theorem tmp_ {n i : Nat} (hn : 1 ≤ n) (hl : n ≤ 1000) (hi : i ≤ 1000) : Int.tmod (wrap64 ((wrap64 ((i : Int) + (n : Int))) - 1)) (n : Int) = ((pv n i : Nat) : Int) := by
  rw [w64 (x := (i : Int) + (n : Int)) (by omega) (by omega), w64 (by omega) (by omega), show (i : Int) + (n : Int) - 1 = ((i + n - 1 : Nat) : Int) by omega]
  exact (Int.ofNat_tmod _ _).symm
theorem impl_str_l (l : List S25) (h3 : 3 ≤ l.length ∧ l.length ≤ 10) (m : Nat) : ∀ (i : Nat) (acc : List S25), i + m = l.length → acc.length ≤ i → Ev (fun k => impl_straightened.l0 k l (l.length : Int) acc l (l.length : Int) (i : Int)) (acc ++ strL (kpI l) l i m) := by
  induction m with
  | zero =>
    intro i acc hi ha
    refine Ev.step (f := fun _ => some acc) (fun k => ?_) (by rw [show strL (kpI l) l i 0 = [] from rfl, List.append_nil]; exact Ev.now _)
    rw [impl_straightened.l0, if_neg (by omega)]
  | succ m ih =>
    intro i acc hi ha
    have hnx := nx_lt (n := l.length) (i := i) (by omega)
    have hpv := pv_lt (n := l.length) (i := i) (by omega)
    have e : strL (kpI l) l i (m + 1) = (if kpI l i = true then [pt l i] else []) ++ strL (kpI l) l (i + 1) m := by
      unfold strL
      rw [List.range'_succ, List.filter_cons]
      split <;> simp
    have h0 : ∀ k, impl_straightened.l0 (k + 1) l (l.length : Int) acc l (l.length : Int) (i : Int) = if onB (pt l (pv l.length i)) (pt l (nx l.length i)) (pt l i) = true then impl_straightened.l0 k l (l.length : Int) acc l (l.length : Int) ((i + 1 : Nat) : Int) else impl_straightened.l0 k l (l.length : Int) (acc ++ [pt l i]) l (l.length : Int) ((i + 1 : Nat) : Int) := by
      intro k
      rw [impl_straightened.l0, if_pos (by omega), if_pos (by omega), if_pos (by omega), if_neg (by omega)]
      simp only [tmp_ (n := l.length) (i := i) (by omega) (by omega) (by omega), tm (n := l.length) (show i ≤ 1000 by omega)]
      rw [if_pos (by omega), if_pos (by omega), if_pos (by omega), if_pos (by omega)]
      show (impl_isOn.f (pt l (pv l.length i)).f0 (pt l (pv l.length i)).f1 (pt l (nx l.length i)).f0 (pt l (nx l.length i)).f1 (pt l i).f0 (pt l i).f1).bind _ = _
      rw [on_f, Option.bind_some, if_pos (show acc.length < 8796093022208 by omega), w1 (by omega)]
      rfl
    rw [e]
    by_cases c : onB (pt l (pv l.length i)) (pt l (nx l.length i)) (pt l i) = true
    · rw [show kpI l i = false by unfold kpI; rw [c]; rfl, if_neg (by simp), List.nil_append]
      refine Ev.step (fun k => ?_) (ih (i + 1) acc (by omega) (by omega))
      rw [h0, if_pos c]
    · rw [show kpI l i = true by unfold kpI; rw [(Bool.not_eq_true _).mp c]; rfl, if_pos rfl]
      have H := ih (i + 1) (acc ++ [pt l i]) (by omega) (by simp; omega)
      rw [List.append_assoc] at H
      refine Ev.step (fun k => ?_) H
      rw [h0, if_neg c]
theorem impl_str (l : List S25) (h3 : 3 ≤ l.length ∧ l.length ≤ 10) : Ev (fun k => impl_straightened.f k l) (strL (kpI l) l 0 l.length) := by
  have := impl_str_l l h3 l.length 0 [] (by omega) (by simp)
  exact this
/-! a corner of a polygon is straight exactly if it lies between its neighbours -/
theorem seg_mid {a b c d : Int} (h : a * d = b * c) (h0 : 0 < a) (h1 : a ≤ c) : (0 ≤ b ∧ b ≤ d) ∨ (d ≤ b ∧ b ≤ 0) := by
  have hc : 0 < c := by omega
  by_cases hd : 0 ≤ d
  · refine Or.inl ⟨?_, ?_⟩
    · have h2 : 0 * c ≤ b * c := by rw [Int.zero_mul, ← h]; exact Int.mul_nonneg (by omega) hd
      exact Int.le_of_mul_le_mul_right h2 hc
    · have h2 : b * c ≤ d * c := by rw [← h, Int.mul_comm d c]; exact Int.mul_le_mul_of_nonneg_right h1 hd
      exact Int.le_of_mul_le_mul_right h2 hc
  · refine Or.inr ⟨?_, ?_⟩
    · have h2 : d * c ≤ b * c := by
        rw [← h, Int.mul_comm d c]
        have := Int.mul_le_mul_of_nonneg_right h1 (show 0 ≤ -d by omega)
        rw [Int.mul_neg, Int.mul_neg] at this
        omega
      exact Int.le_of_mul_le_mul_right h2 hc
    · have h2 : b * c ≤ 0 * c := by
        rw [Int.zero_mul, ← h]
        have := Int.mul_nonneg (show 0 ≤ a by omega) (show 0 ≤ -d by omega)
        rw [Int.mul_neg] at this
        omega
      exact Int.le_of_mul_le_mul_right h2 hc
theorem btw {x y p : Int} (h : (0 ≤ p - x ∧ p - x ≤ y - x) ∨ (y - x ≤ p - x ∧ p - x ≤ 0)) : mn x y ≤ p ∧ p ≤ mx x y := by
  unfold mn mx
  split <;> split <;> omega
def In40 (p : S25) : Prop := (0 ≤ p.f0 ∧ p.f0 ≤ 40) ∧ (0 ≤ p.f1 ∧ p.f1 ≤ 40)
theorem ptOk_in {p : S25} (h : ptOk p = true) : In40 p := by
  unfold ptOk at h
  rw [Bool.and_eq_true, decide_eq_true_eq, decide_eq_true_eq] at h
  exact h
theorem mul_small {x y : Int} (h0 : -40 ≤ x) (h1 : x ≤ 40) (h2 : -40 ≤ y) (h3 : y ≤ 40) : -1600 ≤ x * y ∧ x * y ≤ 1600 := by
  have a1 := Int.mul_nonneg (show 0 ≤ 40 - x by omega) (show 0 ≤ 40 - y by omega)
  have a2 := Int.mul_nonneg (show 0 ≤ 40 + x by omega) (show 0 ≤ 40 + y by omega)
  have a3 := Int.mul_nonneg (show 0 ≤ 40 - x by omega) (show 0 ≤ 40 + y by omega)
  have a4 := Int.mul_nonneg (show 0 ≤ 40 + x by omega) (show 0 ≤ 40 - y by omega)
  rw [Int.sub_mul, Int.mul_sub, Int.mul_sub] at a1
  rw [Int.add_mul, Int.mul_add, Int.mul_add] at a2
  rw [Int.sub_mul, Int.mul_add, Int.mul_add] at a3
  rw [Int.add_mul, Int.mul_sub, Int.mul_sub] at a4
  omega
def crI (a b p : S25) : Int := (b.f0 - a.f0) * (p.f1 - a.f1) - (b.f1 - a.f1) * (p.f0 - a.f0)
theorem crw_I {a b p : S25} (ha : In40 a) (hb : In40 b) (hp : In40 p) : crw a b p = crI a b p := by
  obtain ⟨⟨a1, a2⟩, a3, a4⟩ := ha
  obtain ⟨⟨b1, b2⟩, b3, b4⟩ := hb
  obtain ⟨⟨p1, p2⟩, p3, p4⟩ := hp
  unfold crw crI
  rw [w64 (x := b.f0 - a.f0) (by omega) (by omega), w64 (x := p.f1 - a.f1) (by omega) (by omega), w64 (x := b.f1 - a.f1) (by omega) (by omega), w64 (x := p.f0 - a.f0) (by omega) (by omega)]
  have h1 := mul_small (x := b.f0 - a.f0) (y := p.f1 - a.f1) (by omega) (by omega) (by omega) (by omega)
  have h2 := mul_small (x := b.f1 - a.f1) (y := p.f0 - a.f0) (by omega) (by omega) (by omega) (by omega)
  generalize (b.f0 - a.f0) * (p.f1 - a.f1) = u at *
  generalize (b.f1 - a.f1) * (p.f0 - a.f0) = v at *
  rw [w64 (x := u) (by omega) (by omega), w64 (x := v) (by omega) (by omega), w64 (by omega) (by omega)]
theorem cr_turn (a b p : S25) : crI a p b = - crI a b p := by
  unfold crI
  rw [Int.mul_comm (p.f0 - a.f0), Int.mul_comm (p.f1 - a.f1)]
  omega
theorem cr_ring (a b p : S25) : crI b p a = crI a b p := by
  unfold crI
  simp only [Int.sub_mul, Int.mul_sub]
  have h1 := Int.mul_comm p.f0 a.f1
  have h2 := Int.mul_comm p.f0 b.f1
  have h3 := Int.mul_comm b.f0 a.f1
  have h4 := Int.mul_comm p.f1 a.f0
  have h5 := Int.mul_comm p.f1 b.f0
  have h6 := Int.mul_comm b.f1 a.f0
  have h7 := Int.mul_comm b.f0 b.f1
  have h8 := Int.mul_comm a.f0 a.f1
  omega
theorem onB_of {a b p : S25} (h : crw a b p = 0) (h0 : mn a.f0 b.f0 ≤ p.f0 ∧ p.f0 ≤ mx a.f0 b.f0) (h1 : mn a.f1 b.f1 ≤ p.f1 ∧ p.f1 ≤ mx a.f1 b.f1) : onB a b p = true := by
  unfold onB
  rw [decide_eq_true h, decide_eq_true h0, decide_eq_true h1]
  rfl
theorem mid_on {P X N : S25} (hP : In40 P) (hX : In40 X) (hN : In40 N) (hPX : P ≠ X) (hXN : X ≠ N) (h : crw P X N = 0) (h1 : onB P X N = false) (h2 : onB X N P = false) : onB P N X = true := by
  have c0 : crI P X N = 0 := by rw [← crw_I hP hX hN]; exact h
  have c1 : crw X N P = 0 := by rw [crw_I hX hN hP, cr_ring]; exact c0
  have c2 : crw P N X = 0 := by rw [crw_I hP hN hX, cr_turn, c0]; rfl
  have c3 : (P.f0 - X.f0) * (N.f1 - X.f1) = (P.f1 - X.f1) * (N.f0 - X.f0) := by
    have : crI X P N = 0 := by rw [cr_turn, cr_ring, c0]; rfl
    unfold crI at this
    omega
  have c4 : crw P X N = 0 := h
  -- X lies on one side of P and N in some coordinate: then P or N lies between the others
  have key : ∀ {a b c d : Int}, a * d = b * c → (0 < a ∧ 0 < c) → ((0 ≤ a ∧ a ≤ c) ∧ ((0 ≤ b ∧ b ≤ d) ∨ (d ≤ b ∧ b ≤ 0))) ∨ ((0 ≤ c ∧ c ≤ a) ∧ ((0 ≤ d ∧ d ≤ b) ∨ (b ≤ d ∧ d ≤ 0))) := by
    intro a b c d hh ⟨g1, g2⟩
    by_cases e : a ≤ c
    · exact Or.inl ⟨⟨by omega, e⟩, seg_mid hh g1 e⟩
    · exact Or.inr ⟨⟨by omega, by omega⟩, seg_mid (by rw [Int.mul_comm, ← hh, Int.mul_comm]) g2 (by omega)⟩
  have bad1 : ¬ ((mn X.f0 N.f0 ≤ P.f0 ∧ P.f0 ≤ mx X.f0 N.f0) ∧ (mn X.f1 N.f1 ≤ P.f1 ∧ P.f1 ≤ mx X.f1 N.f1)) := fun z => by
    rw [onB_of c1 z.1 z.2] at h2; cases h2
  have bad2 : ¬ ((mn P.f0 X.f0 ≤ N.f0 ∧ N.f0 ≤ mx P.f0 X.f0) ∧ (mn P.f1 X.f1 ≤ N.f1 ∧ N.f1 ≤ mx P.f1 X.f1)) := fun z => by
    rw [onB_of c4 z.1 z.2] at h1; cases h1
  have sw : ∀ {x y p : Int}, mn x y ≤ p ∧ p ≤ mx x y → mn y x ≤ p ∧ p ≤ mx y x := by
    intro x y p h
    have e1 : mn y x = mn x y := by unfold mn; split <;> split <;> omega
    have e2 : mx y x = mx x y := by unfold mx; split <;> split <;> omega
    rw [e1, e2]
    exact h
  have none : ∀ (s : Int), s = 1 ∨ s = -1 → ¬ (0 < s * (P.f0 - X.f0) ∧ 0 < s * (N.f0 - X.f0)) ∧ ¬ (0 < s * (P.f1 - X.f1) ∧ 0 < s * (N.f1 - X.f1)) := by
    intro s hs
    refine ⟨fun z => ?_, fun z => ?_⟩
    · rcases key (a := s * (P.f0 - X.f0)) (b := s * (P.f1 - X.f1)) (c := s * (N.f0 - X.f0)) (d := s * (N.f1 - X.f1)) (by rcases hs with rfl | rfl <;> simp only [Int.one_mul, Int.neg_mul, Int.mul_neg, Int.neg_neg] <;> exact c3) z with ⟨y1, y2⟩ | ⟨y1, y2⟩
      · exact bad1 ⟨btw (by rcases hs with rfl | rfl <;> omega), btw (by rcases hs with rfl | rfl <;> omega)⟩
      · exact bad2 ⟨sw (btw (by rcases hs with rfl | rfl <;> omega)), sw (btw (by rcases hs with rfl | rfl <;> omega))⟩
    · rcases key (a := s * (P.f1 - X.f1)) (b := s * (P.f0 - X.f0)) (c := s * (N.f1 - X.f1)) (d := s * (N.f0 - X.f0)) (by rcases hs with rfl | rfl <;> simp only [Int.one_mul, Int.neg_mul, Int.mul_neg, Int.neg_neg] <;> exact c3.symm) z with ⟨y1, y2⟩ | ⟨y1, y2⟩
      · exact bad1 ⟨btw (by rcases hs with rfl | rfl <;> omega), btw (by rcases hs with rfl | rfl <;> omega)⟩
      · exact bad2 ⟨sw (btw (by rcases hs with rfl | rfl <;> omega)), sw (btw (by rcases hs with rfl | rfl <;> omega))⟩
  have n1 := none 1 (Or.inl rfl)
  have n2 := none (-1) (Or.inr rfl)
  refine onB_of c2 ?_ ?_
  · unfold mn mx; split <;> split <;> omega
  · unfold mn mx; split <;> split <;> omega
theorem onB_self {a b : S25} : onB a b b = true := by
  refine onB_of ?_ ?_ ?_
  · unfold crw
    rw [Int.mul_comm (wrap64 (b.f1 - a.f1))]
    unfold wrap64
    omega
  · unfold mn mx; split <;> split <;> omega
  · unfold mn mx; split <;> split <;> omega
theorem touch_eq {a b c d : S25} (h : meetV a b c d = 1) : ∀ x ∈ shared a b c d, ∀ y ∈ shared a b c d, x = y := by
  have hl := addL_len (shared a b c d)
  unfold meetV at h
  by_cases c1 : (addL [] (shared a b c d)).length > 1
  · rw [if_pos c1] at h; exact absurd h (by decide)
  · rw [if_neg c1] at h
    by_cases c2 : (addL [] (shared a b c d)).length = 1
    · exact (hl.2.mp c2).2
    · rw [if_neg c2] at h
      split at h <;> exact absurd h (by decide)
theorem touch_mid {P X N : S25} (hPX : P ≠ X) (hXN : X ≠ N) (h : meetV P X X N = 1 ∨ meetV X N P X = 1) : onB P X N = false ∧ onB X N P = false := by
  have hX1 : onB P X X = true := onB_self
  rcases h with h | h
  · have := touch_eq h
    have hx : X ∈ shared P X X N := by simp [shared, hX1]
    refine ⟨(Bool.not_eq_true _).mp fun z => ?_, (Bool.not_eq_true _).mp fun z => ?_⟩
    · exact hXN (this X hx N (by simp [shared, z]))
    · exact hPX (this P (by simp [shared, z]) X hx)
  · have := touch_eq h
    have hx : X ∈ shared X N P X := by simp [shared, hX1]
    refine ⟨(Bool.not_eq_true _).mp fun z => ?_, (Bool.not_eq_true _).mp fun z => ?_⟩
    · exact hXN (this X hx N (by simp [shared, z]))
    · exact hPX (this P (by simp [shared, z]) X hx)
theorem kp_same {l : List S25} (h : polyB l = true) {i : Nat} (hi : i < l.length) : kpI l i = kpS l i := by
  have h3 := polyB_len h
  unfold polyB at h
  rw [Bool.and_eq_true, Bool.and_eq_true, Bool.and_eq_true] at h
  obtain ⟨_, hok, hne, hmt⟩ := h
  have hpt : ∀ j, j < l.length → In40 (pt l j) := fun j hj => by
    unfold pt
    rw [rdT_nat l j hj]
    exact ptOk_in (List.all_eq_true.mp hok _ (List.getElem_mem hj))
  have hn : ∀ j, j < l.length → pt l j ≠ pt l (nx l.length j) := fun j hj e => by
    have := List.all_eq_true.mp hne j (List.mem_range.mpr hj)
    rw [(eqPt_iff _ _).mpr e] at this
    cases this
  have hm : ∀ j k, j < k → k < l.length → meetsB l j k = true := fun j k hjk hk => List.all_eq_true.mp (List.all_eq_true.mp hmt j (List.mem_range.mpr (by omega))) k (by rw [List.mem_range'_1]; omega)
  have hpv := pv_lt (n := l.length) (i := i) (by omega)
  have hnx := nx_lt (n := l.length) (i := i) (by omega)
  have hpn : nx l.length (pv l.length i) = i := by
    unfold nx pv
    by_cases e : i = 0
    · subst e
      rw [Nat.mod_eq_of_lt (show 0 + l.length - 1 < l.length by omega), show 0 + l.length - 1 + 1 = l.length by omega, Nat.mod_self]
    · rw [show i + l.length - 1 = (i - 1) + l.length by omega, Nat.add_mod_right, Nat.mod_eq_of_lt (show i - 1 < l.length by omega), show i - 1 + 1 = i by omega, Nat.mod_eq_of_lt hi]
  have g1 := hn _ hpv
  rw [hpn] at g1
  have g2 := hn i hi
  have tch : meetV (pt l (pv l.length i)) (pt l i) (pt l i) (pt l (nx l.length i)) = 1 ∨ meetV (pt l i) (pt l (nx l.length i)) (pt l (pv l.length i)) (pt l i) = 1 := by
    by_cases e : i = 0
    · subst e
      have hp0 : pv l.length 0 = l.length - 1 := by unfold pv; rw [Nat.mod_eq_of_lt (by omega)]; omega
      have := hm 0 (l.length - 1) (by omega) (by omega)
      unfold meetsB wantV at this
      rw [if_pos (Or.inr ⟨rfl, by omega⟩), ← hp0, hpn] at this
      exact Or.inr (beq_iff_eq.mp this)
    · have hp0 : pv l.length i = i - 1 := by unfold pv; rw [show i + l.length - 1 = (i - 1) + l.length by omega, Nat.add_mod_right, Nat.mod_eq_of_lt (by omega)]
      have := hm (i - 1) i (by omega) hi
      unfold meetsB wantV at this
      rw [if_pos (Or.inl (by omega)), ← hp0, hpn] at this
      exact Or.inl (beq_iff_eq.mp this)
  obtain ⟨t1, t2⟩ := touch_mid g1 g2 tch
  have iP := hpt _ hpv
  have iX := hpt _ hi
  have iN := hpt _ hnx
  unfold kpI kpS
  by_cases c : crw (pt l (pv l.length i)) (pt l i) (pt l (nx l.length i)) = 0
  · rw [decide_eq_true c, mid_on iP iX iN g1 g2 c t1 t2]
  · rw [decide_eq_false c]
    have : onB (pt l (pv l.length i)) (pt l (nx l.length i)) (pt l i) = false := by
      unfold onB
      rw [decide_eq_false (fun z => c ?_), Bool.false_and]
      rw [crw_I iP iN iX, cr_turn] at z
      rw [crw_I iP iX iN]
      omega
    rw [this]
theorem str_same {l : List S25} (h : polyB l = true) : strL (kpI l) l 0 l.length = strL (kpS l) l 0 l.length := by
  unfold strL
  rw [List.filter_congr (fun i hi => kp_same h (by rw [List.mem_range'_1] at hi; omega))]
/- EqualCut: both texts test the triangulation, the corners and the areas alike. -/
def rectL (d : Int) : List S25 := [⟨0, 0⟩, ⟨d, 0⟩, ⟨d, d⟩, ⟨0, d⟩]
theorem impl_rect (d : Int) : impl_RectangleOf.f d d = some (if 1 ≤ d ∧ d ≤ 40 then rectL d else []) := by
  unfold impl_RectangleOf.f
  rw [within_f, Option.bind_some]
  by_cases c : 1 ≤ d ∧ d ≤ 40
  · rw [if_pos (decide_eq_true c), Option.bind_some, if_pos (decide_eq_true c), if_pos c]; rfl
  · rw [if_neg (by simpa using c), if_neg c]
theorem rect_kp : ∀ n : Nat, n < 41 → 1 ≤ n → (List.range' 0 4).filter (kpS (rectL (n : Int))) = [0, 1, 2, 3] := by decide +kernel
theorem rect_str {d : Int} (h : 1 ≤ d ∧ d ≤ 40) : strL (kpS (rectL d)) (rectL d) 0 4 = rectL d := by
  obtain ⟨n, rfl⟩ := Int.eq_ofNat_of_zero_le (show 0 ≤ d by omega)
  unfold strL
  rw [rect_kp n (by omega) (by omega)]
  rfl
theorem rot_f (a c : List S25) (hc : c.length = 4) (ha : a.length ≤ 1000) : ∀ m j, Ev (fun k => spRot k a c m j) ((List.range' j m).any fun i => decide (a = c.drop i ++ c.take i))
  | 0, j => Ev.now _
  | m + 1, j => by
    rw [List.range'_succ, List.any_cons]
    refine Ev.bind (impl_eqL a (c.drop j ++ c.take j) ha) ?_
    by_cases e : a = c.drop j ++ c.take j
    · simp only [decide_eq_true e, if_true, Bool.true_or]; exact Ev.now _
    · simp only [decide_eq_false e, Bool.false_eq_true, if_false, Bool.false_or]; exact rot_f a c hc ha m (j + 1)
def rotB (a c : List S25) : Bool := (List.range' 0 4).any fun i => decide (a = c.drop i ++ c.take i)
theorem out_f (a b t : List S25) (hb : b.length = 4) (ht : t.length = 4) (ha : a.length ≤ 1000) : Ev (fun k => spOut k a [b, t]) (rotB a b || rotB a t) := by
  have h1 := rot_f a b hb ha 4 0
  have h2 := rot_f a t ht ha 4 0
  unfold spOut
  rw [hb]
  refine Ev.bind h1 ?_
  show Ev _ (rotB a b || rotB a t)
  change Ev (fun k => if rotB a b = true then some true else spOut k a [t]) _
  cases rotB a b with
  | true => exact Ev.now _
  | false =>
    simp only [Bool.false_eq_true, if_false, Bool.false_or]
    unfold spOut
    rw [ht]
    refine Ev.bind h2 ?_
    change Ev (fun k => if rotB a t = true then some true else spOut k a []) _
    cases rotB a t with
    | true => exact Ev.now _
    | false => exact Ev.now _
def sameV (l : List S25) (d : Int) : Bool := polyB l && (decide (1 ≤ d ∧ d ≤ 40) && (polyB (rectL d) && (rotB (strL (kpS l) l 0 l.length) (rectL d) || rotB (strL (kpS l) l 0 l.length) (tuRow (rectL d)))))
theorem polyB_nil : polyB ([] : List S25) = false := rfl
theorem impl_same (l : List S25) (hl : l.length ≤ 1048576) (d : Int) : Ev (fun k => impl_SamePolygon.f k l (if 1 ≤ d ∧ d ≤ 40 then rectL d else [])) (sameV l d) := by
  unfold impl_SamePolygon.f sameV
  refine Ev.bind (impl_poly l hl) ?_
  cases hb : polyB l with
  | false => exact Ev.now _
  | true =>
    simp only [if_true, Bool.true_and]
    have h3 := polyB_len hb
    by_cases c : 1 ≤ d ∧ d ≤ 40
    · simp only [if_pos c, decide_eq_true c, Bool.true_and]
      refine Ev.bind (impl_poly (rectL d) (by simp [rectL])) ?_
      cases hb2 : polyB (rectL d) with
      | false => exact Ev.now _
      | true =>
        simp only [if_true, Bool.true_and]
        refine Ev.bind (impl_str l h3) (Ev.bind (impl_str (rectL d) ⟨by simp [rectL], by simp [rectL]⟩) ?_)
        rw [str_same hb, str_same hb2, show (rectL d).length = 4 from rfl, rect_str c]
        have ht : impl_turned.f (rectL d) = some (tuRow (rectL d)) := by unfold impl_turned.f; rw [if_pos (show (rectL d).length = 4 from rfl)]
        simp only [ht, Option.bind_some]
        exact out_f _ _ _ rfl rfl (Nat.le_trans (strL_len _ _ _ _) (by omega))
    · simp only [if_neg c, decide_eq_false c, Bool.false_and]
      refine Ev.bind (impl_poly [] (by simp)) ?_
      rw [polyB_nil]
      exact Ev.now _
theorem rdLL_nat (l : List (List Int)) (i : Nat) (h : i < l.length) : rd_L3 l (i : Int) = l[i] := by simp [rd_L3, List.getD_eq_getElem?_getD, h]
theorem tri_rows {l : List S25} : ∀ (T : List (List Int)) (a : Int) (ks : List (Int × Int)) {x : Int × List (Int × Int)}, triR l T a ks = some x → ∀ t ∈ T, itOkB (l.length : Int) t = true
  | [], a, ks, x, _ => by simp
  | t :: T, a, ks, x, e => by
    rw [triR] at e
    by_cases c : triOk l t = true
    · rw [if_pos c] at e
      intro u hu
      rcases List.mem_cons.mp hu with rfl | hu
      · exact (triOk_of c).1
      · exact tri_rows T _ _ e u hu
    · rw [if_neg c] at e; cases e
theorem triB_rows {l : List S25} {T : List (List Int)} (h : triB l T = true) : (3 ≤ l.length ∧ l.length ≤ 10) ∧ T.length ≤ 10 ∧ ∀ t ∈ T, itOkB (l.length : Int) t = true := by
  unfold triB at h
  rw [Bool.and_eq_true, Bool.and_eq_true, decide_eq_true_eq] at h
  obtain ⟨h1, h2, h3⟩ := h
  have := polyB_len h1
  refine ⟨this, by omega, ?_⟩
  cases e : triR l T 0 [] with
  | none => rw [e] at h3; cases h3
  | some x => exact tri_rows T 0 [] e
theorem areas_f {l : List S25} : ∀ {T : List (List Int)}, (∀ t ∈ T, itOkB (l.length : Int) t = true) → ecAreas l T = some (T.map (szT l))
  | [], _ => rfl
  | t :: T, h => by
    rw [ecAreas, areas_f (fun u hu => h u (List.mem_cons_of_mem _ hu))]
    have : ecArea l t = some (szT l t) := by
      unfold ecArea
      rw [if_pos (h t (List.mem_cons_self ..))]
      rfl
    rw [this]
    rfl
def equalV (d : Int) (l : List S25) (T : List (List Int)) : Bool := triB l T && (sameV l d && T.all fun t => szT l t == szT l (rd_L3 T 0))
theorem impl_equal (d : Int) (l : List S25) (hl : l.length ≤ 1048576) (T : List (List Int)) (hT : T.length ≤ 1048576) : Ev (fun k => impl_EqualCut.f k d l T) (equalV d l T) := by
  unfold impl_EqualCut.f equalV
  refine Ev.bind (impl_tri l T hl hT) ?_
  cases hb : triB l T with
  | false => exact Ev.now _
  | true =>
    obtain ⟨h3, hT2, hok⟩ := triB_rows hb
    simp only [if_true, Bool.true_and, impl_rect, Option.bind_some]
    refine Ev.bind (impl_same l hl d) ?_
    cases sameV l d with
    | false => exact Ev.now _
    | true =>
      simp only [if_true, Bool.true_and, areas_f hok, Option.bind_some]
      rw [List.all_map]
      have : (fun t => szT l t == szT l (rd_L3 T 0)) = ((fun s => s == (T.map (szT l)).headD 0) ∘ szT l) ∨ T = [] := by
        cases T with
        | nil => exact Or.inr rfl
        | cons t T => exact Or.inl rfl
      rcases this with e | e
      · rw [← e]; exact Ev.now _
      · subst e; exact Ev.now _
/- CountRainbows: both texts test the triangulation and the colors alike, and count the triangles with three colors. -/
def rainsN (d : Int) (l : List S25) : List (List Int) → Int → Int
  | [], c => c
  | t :: T, c => rainsN d l T (if isRain d (rd_T25 l (rd t 0)) (rd_T25 l (rd t 1)) (rd_T25 l (rd t 2)) = true then c + 1 else c)
theorem rd_64 {l : List S25} (hp : ∀ p ∈ l, P64 p) {i : Int} (h0 : 0 ≤ i) (h1 : i < (l.length : Int)) : P64 (rd_T25 l i) := by
  obtain ⟨n, rfl⟩ := Int.eq_ofNat_of_zero_le h0
  rw [rdT_nat l n (by omega)]
  exact hp _ (List.getElem_mem _)
theorem impl_rains_l (d : Int) (hd : In64 d) (l : List S25) (hp : ∀ p ∈ l, P64 p) (hl : l.length ≤ 10) (T : List (List Int)) (hT : T.length ≤ 10) (hok : ∀ t ∈ T, itOkB (l.length : Int) t = true) (n : Nat) : ∀ (j : Nat) (c : Int), T.length - j = n → j ≤ T.length → 0 ≤ c → c ≤ j → Ev (fun k => impl_CountRainbows.l0 k d l c T (T.length : Int) (j : Int)) (rainsN d l (T.drop j) c) := by
  induction n with
  | zero =>
    intro j c hn hj h0 h1
    rw [List.drop_of_length_le (by omega), rainsN]
    refine Ev.step (f := fun _ => some c) (fun k => ?_) (Ev.now _)
    rw [impl_CountRainbows.l0, if_neg (by omega)]
  | succ n ih =>
    intro j c hn hj h0 h1
    have hlt : j < T.length := by omega
    have ok := hok _ (List.getElem_mem hlt)
    have hrd := rdLL_nat T j hlt
    rw [List.drop_eq_getElem_cons hlt, rainsN]
    generalize T[j] = t at ok hrd
    obtain ⟨g1, g2, g3, g4, g5⟩ := okB_of ok
    refine Ev.step (f := fun k => (impl_IsRainbow.f k d (rd_T25 l (rd t 0)).f0 (rd_T25 l (rd t 0)).f1 (rd_T25 l (rd t 1)).f0 (rd_T25 l (rd t 1)).f1 (rd_T25 l (rd t 2)).f0 (rd_T25 l (rd t 2)).f1).bind fun b => if b = true then impl_CountRainbows.l0 k d l (wrap64 (c + 1)) T (T.length : Int) ((j + 1 : Nat) : Int) else impl_CountRainbows.l0 k d l c T (T.length : Int) ((j + 1 : Nat) : Int)) (fun k => ?_) (Ev.bind (impl_rainbow hd (rd_64 hp (by omega) (by omega)) (rd_64 hp (by omega) (by omega)) (rd_64 hp (by omega) (by omega))) ?_)
    · rw [impl_CountRainbows.l0, if_pos (by omega), if_pos (by omega), if_pos (by omega), hrd, if_pos (by omega), if_pos (by omega), if_pos (by omega), if_pos (by omega), if_pos (by omega), if_pos (by omega), if_pos (by omega), if_pos (by omega), if_pos (by omega), w1 (by omega)]
    · rw [w64 (x := c + 1) (by omega) (by omega)]
      cases isRain d (rd_T25 l (rd t 0)) (rd_T25 l (rd t 1)) (rd_T25 l (rd t 2)) with
      | true => simp only [if_true]; exact ih (j + 1) (c + 1) (by omega) (by omega) (by omega) (by omega)
      | false => simp only [Bool.false_eq_true, if_false]; exact ih (j + 1) c (by omega) (by omega) (by omega) (by omega)
def rainsV (d : Int) (l : List S25) (T : List (List Int)) : Int := if (triB l T && colsB d l) = true then rainsN d l T 0 else -1
theorem impl_rains (d : Int) (hd : In64 d) (l : List S25) (hl : l.length ≤ 1048576) (hp : ∀ p ∈ l, P64 p) (T : List (List Int)) (hT : T.length ≤ 1048576) : Ev (fun k => impl_CountRainbows.f k d l T) (rainsV d l T) := by
  unfold impl_CountRainbows.f rainsV
  refine Ev.bind (impl_tri l T hl hT) ?_
  cases hb : triB l T with
  | false =>
    simp only [Bool.false_and, Bool.false_eq_true, if_false]
    refine Ev.step (f := fun _ => some (-1)) (fun k => ?_) (Ev.now _)
    rw [impl_CountRainbows.j0, if_pos rfl]
  | true =>
    simp only [Bool.true_and, if_true]
    refine Ev.bind (impl_has d hd l hp) ?_
    obtain ⟨h3, hT2, hok⟩ := triB_rows hb
    cases hc : colsB d l with
    | false =>
      simp only [Bool.false_eq_true, if_false]
      refine Ev.step (f := fun _ => some (-1)) (fun k => ?_) (Ev.now _)
      rw [impl_CountRainbows.j0, if_pos (by rfl)]
    | true =>
      simp only [if_true]
      have H := impl_rains_l d hd l hp h3.2 T hT2 hok T.length 0 0 (by omega) (by omega) (by omega) (by omega)
      rw [List.drop_zero] at H
      refine Ev.step (fun k => ?_) H
      rw [impl_CountRainbows.j0, if_neg (by simp)]
      rfl
/- RainbowSides: both texts test the polygon and the colors alike, and count the sides whose ends have the colors 0 and 1. -/
def sideB (d : Int) (l : List S25) (i : Nat) : Bool := decide (colV d (pt l i) = 0 ∧ colV d (pt l (nx l.length i)) = 1) || decide (colV d (pt l i) = 1 ∧ colV d (pt l (nx l.length i)) = 0)
def sidesN (d : Int) (l : List S25) : Nat → Nat → Int → Int
  | 0, _, c => c
  | m + 1, i, c => sidesN d l m (i + 1) (if sideB d l i = true then c + 1 else c)
theorem pt_col {d : Int} {l : List S25} (hc : colsB d l = true) {i : Nat} (hi : i < l.length) : 0 ≤ colV d (pt l i) := by
  have := List.all_eq_true.mp hc _ (List.getElem_mem hi)
  unfold pt
  rw [rdT_nat l i hi]
  exact of_decide_eq_true this
theorem pt_64 {l : List S25} (hp : ∀ p ∈ l, P64 p) {i : Nat} (hi : i < l.length) : P64 (pt l i) := by
  unfold pt
  rw [rdT_nat l i hi]
  exact hp _ (List.getElem_mem hi)
theorem impl_sides_l (d : Int) (hd : In64 d) (l : List S25) (h3 : 3 ≤ l.length ∧ l.length ≤ 10) (hp : ∀ p ∈ l, P64 p) (hc : colsB d l = true) (n : Nat) : ∀ (i : Nat) (c : Int), l.length - i = n → i ≤ l.length → 0 ≤ c → c ≤ i → Ev (fun k => impl_RainbowSides.l0 k d l c l (l.length : Int) (i : Int)) (sidesN d l n i c) := by
  induction n with
  | zero =>
    intro i c hn hi h0 h1
    refine Ev.step (f := fun _ => some c) (fun k => ?_) (Ev.now _)
    rw [impl_RainbowSides.l0, if_neg (by omega)]
  | succ n ih =>
    intro i c hn hi h0 h1
    have hlt : i < l.length := by omega
    have hnx := nx_lt (n := l.length) (i := i) (by omega)
    have a1 := pt_col hc hlt
    have a2 := pt_col hc hnx
    have b1 := colV_in hd (pt_64 hp hlt)
    have b2 := colV_in hd (pt_64 hp hnx)
    refine Ev.step (f := fun k => (impl_ColorOf.f k d (pt l i).f0 (pt l i).f1).bind fun t => (impl_ColorOf.f k d (pt l (nx l.length i)).f0 (pt l (nx l.length i)).f1).bind fun u => if mn t u = 0 then (if mx t u = 1 then impl_RainbowSides.l0 k d l (wrap64 (c + 1)) l (l.length : Int) ((i + 1 : Nat) : Int) else impl_RainbowSides.l0 k d l c l (l.length : Int) ((i + 1 : Nat) : Int)) else impl_RainbowSides.l0 k d l c l (l.length : Int) ((i + 1 : Nat) : Int)) (fun k => ?_) (Ev.bind (col_impl hd (pt_64 hp hlt)) (Ev.bind (col_impl hd (pt_64 hp hnx)) ?_))
    · rw [impl_RainbowSides.l0, if_pos (by omega), if_pos (by omega), if_pos (by omega)]
      simp only [tm2, if_neg (show ¬ (l.length : Int) = 0 by omega), if_pos (show (0 : Int) ≤ ((nx l.length i : Nat) : Int) by omega), if_pos (show ((nx l.length i : Nat) : Int) < (l.length : Int) by omega), w1 (show i ≤ 140737488355328 by omega)]
      rfl
    · rw [w64 (x := c + 1) (by omega) (by omega), sidesN]
      unfold sideB
      have hmn : mn (colV d (pt l i)) (colV d (pt l (nx l.length i))) = if colV d (pt l (nx l.length i)) < colV d (pt l i) then colV d (pt l (nx l.length i)) else colV d (pt l i) := rfl
      have hmx : mx (colV d (pt l i)) (colV d (pt l (nx l.length i))) = if colV d (pt l i) < colV d (pt l (nx l.length i)) then colV d (pt l (nx l.length i)) else colV d (pt l i) := rfl
      by_cases e : (colV d (pt l i) = 0 ∧ colV d (pt l (nx l.length i)) = 1) ∨ (colV d (pt l i) = 1 ∧ colV d (pt l (nx l.length i)) = 0)
      · rw [if_pos (by simpa using e)]
        simp only [if_pos (show mn (colV d (pt l i)) (colV d (pt l (nx l.length i))) = 0 by rw [hmn]; split <;> omega), if_pos (show mx (colV d (pt l i)) (colV d (pt l (nx l.length i))) = 1 by rw [hmx]; split <;> omega)]
        exact ih (i + 1) (c + 1) (by omega) (by omega) (by omega) (by omega)
      · rw [if_neg (by simpa using e)]
        have H := ih (i + 1) c (by omega) (by omega) (by omega) (by omega)
        by_cases f : mn (colV d (pt l i)) (colV d (pt l (nx l.length i))) = 0
        · have g : ¬ mx (colV d (pt l i)) (colV d (pt l (nx l.length i))) = 1 := by
            rw [hmn] at f
            rw [hmx]
            split at f <;> split <;> omega
          simp only [if_pos f, if_neg g]
          exact H
        · simp only [if_neg f]
          exact H
def rainV (d : Int) (l : List S25) : Int := if (polyB l && colsB d l) = true then sidesN d l l.length 0 0 else -1
theorem impl_rain (d : Int) (hd : In64 d) (l : List S25) (hl : l.length ≤ 1048576) (hp : ∀ p ∈ l, P64 p) : Ev (fun k => impl_RainbowSides.f k d l) (rainV d l) := by
  unfold impl_RainbowSides.f rainV
  refine Ev.bind (impl_poly l hl) ?_
  cases hb : polyB l with
  | false =>
    simp only [Bool.false_and, Bool.false_eq_true, if_false]
    refine Ev.step (f := fun _ => some (-1)) (fun k => ?_) (Ev.now _)
    rw [impl_RainbowSides.j0, if_pos (by rfl)]
  | true =>
    simp only [Bool.true_and, if_true]
    refine Ev.bind (impl_has d hd l hp) ?_
    cases hc : colsB d l with
    | false =>
      simp only [Bool.false_eq_true, if_false]
      refine Ev.step (f := fun _ => some (-1)) (fun k => ?_) (Ev.now _)
      rw [impl_RainbowSides.j0, if_pos (by rfl)]
    | true =>
      simp only [if_true]
      refine Ev.step (fun k => ?_) (impl_sides_l d hd l (polyB_len hb) hp hc l.length 0 0 (by omega) (by omega) (by omega) (by omega))
      rw [impl_RainbowSides.j0, if_neg (by simp)]
      rfl

def gp (d a b c e : Int) : Nat → S25
  | 0 => ⟨0, 0⟩
  | 1 => ⟨a, 0⟩
  | 2 => ⟨d, 0⟩
  | 3 => ⟨d, b⟩
  | 4 => ⟨d, d⟩
  | 5 => ⟨c, d⟩
  | 6 => ⟨0, d⟩
  | _ => ⟨0, e⟩
def colS (u v w : Nat) : Bool := decide (w ≤ 2) || (decide (2 ≤ u ∧ w ≤ 4) || (decide (4 ≤ u ∧ w ≤ 6) || decide (u = 0 ∧ v = 6 ∧ w = 7)))
def baseS (u v w : Nat) : Int := if u < v ∧ v < w ∧ colS u v w = false then 1 else 0
def sgS (u v w : Nat) : Int := if u < v then (if v < w then baseS u v w else if u < w then -baseS u w v else baseS w u v) else if u < w then -baseS v u w else if v < w then baseS v w u else -baseS w v u
def midS (u v w : Nat) : Bool := decide (w = 1 ∧ ((u = 0 ∧ v = 2) ∨ (u = 2 ∧ v = 0))) || (decide (w = 3 ∧ ((u = 2 ∧ v = 4) ∨ (u = 4 ∧ v = 2))) || (decide (w = 5 ∧ ((u = 4 ∧ v = 6) ∨ (u = 6 ∧ v = 4))) || decide (w = 7 ∧ ((u = 6 ∧ v = 0) ∨ (u = 0 ∧ v = 6)))))
def onS (u v w : Nat) : Bool := decide (w = u) || (decide (w = v) || midS u v w)
def exts (d u : Nat) : List Int := if u % 2 = 1 then (List.range' 1 (d - 1)).map fun (x : Nat) => (x : Int) else [1]
def sp (d : Nat) (t : Int) (u : Nat) : S25 := gp (d : Int) t t t t u
def chk3 (u v w : Nat) : Bool := (List.range' 2 8).all fun d => (exts d u).all fun x => (exts d v).all fun y => (exts d w).all fun z =>
  decide (sgn (crw (sp d x u) (sp d y v) (sp d z w)) = sgS u v w) && (onB (sp d x u) (sp d y v) (sp d z w) == onS u v w && (onB (sp d y v) (sp d z w) (sp d x u) == onS v w u && onB (sp d x u) (sp d z w) (sp d y v) == onS u w v))
theorem chk_all : ∀ u < 8, ∀ v < 8, ∀ w < 8, u < v → v < w → chk3 u v w = true := by decide +kernel
def chk2 (u v : Nat) : Bool := (List.range' 2 8).all fun d => (exts d u).all fun x => (exts d v).all fun y => !onB (sp d x u) (sp d x u) (sp d y v) && !onB (sp d y v) (sp d y v) (sp d x u)
theorem chk2_all : ∀ u < 8, ∀ v < 8, u < v → chk2 u v = true := by decide +kernel
structure Sq (d a b c e : Int) : Prop where
  hd : 2 ≤ d ∧ d ≤ 9
  ha : 1 ≤ a ∧ a ≤ d - 1
  hb : 1 ≤ b ∧ b ≤ d - 1
  hc : 1 ≤ c ∧ c ≤ d - 1
  he : 1 ≤ e ∧ e ≤ d - 1
def own (a b c e : Int) : Nat → Int
  | 1 => a
  | 3 => b
  | 5 => c
  | 7 => e
  | _ => 1
theorem lt8 {u : Nat} (h : u < 8) : u = 0 ∨ u = 1 ∨ u = 2 ∨ u = 3 ∨ u = 4 ∨ u = 5 ∨ u = 6 ∨ u = 7 := by omega
theorem own_mem {d a b c e : Int} (H : Sq d a b c e) {u : Nat} (h : u < 8) : own a b c e u ∈ exts d.toNat u := by
  have h1 := H.hd; have h2 := H.ha; have h3 := H.hb; have h4 := H.hc; have h5 := H.he
  have key : ∀ x : Int, 1 ≤ x ∧ x ≤ d - 1 → x ∈ (List.range' 1 (d.toNat - 1)).map fun (x : Nat) => (x : Int) := fun x hx => List.mem_map.mpr ⟨x.toNat, List.mem_range'_1.mpr ⟨by omega, by omega⟩, by omega⟩
  rcases lt8 h with rfl | rfl | rfl | rfl | rfl | rfl | rfl | rfl
  · exact List.mem_singleton.mpr rfl
  · exact key _ h2
  · exact List.mem_singleton.mpr rfl
  · exact key _ h3
  · exact List.mem_singleton.mpr rfl
  · exact key _ h4
  · exact List.mem_singleton.mpr rfl
  · exact key _ h5
theorem gp_own {d a b c e : Int} (H : Sq d a b c e) {u : Nat} (h : u < 8) : gp d a b c e u = sp d.toNat (own a b c e u) u := by
  have hd : ((d.toNat : Nat) : Int) = d := by have := H.hd; omega
  unfold sp
  rw [hd]
  rcases lt8 h with rfl | rfl | rfl | rfl | rfl | rfl | rfl | rfl <;> rfl
theorem sq_three {d a b c e : Int} (H : Sq d a b c e) {u v w : Nat} (h1 : u < v) (h2 : v < w) (h3 : w < 8) :
    sgn (crw (gp d a b c e u) (gp d a b c e v) (gp d a b c e w)) = sgS u v w ∧ onB (gp d a b c e u) (gp d a b c e v) (gp d a b c e w) = onS u v w ∧ onB (gp d a b c e v) (gp d a b c e w) (gp d a b c e u) = onS v w u ∧ onB (gp d a b c e u) (gp d a b c e w) (gp d a b c e v) = onS u w v := by
  have hu : u < 8 := by omega
  have hv : v < 8 := by omega
  have k := chk_all u hu v hv w h3 h1 h2
  have hd : d.toNat ∈ List.range' 2 8 := List.mem_range'_1.mpr (by have := H.hd; omega)
  have k2 := List.all_eq_true.mp (List.all_eq_true.mp (List.all_eq_true.mp (List.all_eq_true.mp k _ hd) _ (own_mem H hu)) _ (own_mem H hv)) _ (own_mem H h3)
  simp only [Bool.and_eq_true, decide_eq_true_eq, beq_iff_eq] at k2
  rw [gp_own H hu, gp_own H hv, gp_own H h3]
  exact k2
theorem sq_two {d a b c e : Int} (H : Sq d a b c e) {u v : Nat} (h1 : u < v) (h2 : v < 8) : onB (gp d a b c e u) (gp d a b c e u) (gp d a b c e v) = false ∧ onB (gp d a b c e v) (gp d a b c e v) (gp d a b c e u) = false := by
  have hu : u < 8 := by omega
  have k := chk2_all u hu v h2 h1
  have hd : d.toNat ∈ List.range' 2 8 := List.mem_range'_1.mpr (by have := H.hd; omega)
  have k2 := List.all_eq_true.mp (List.all_eq_true.mp (List.all_eq_true.mp k _ hd) _ (own_mem H hu)) _ (own_mem H h2)
  simp only [Bool.and_eq_true, Bool.not_eq_true'] at k2
  rw [gp_own H hu, gp_own H h2]
  exact k2
theorem gp_40 {d a b c e : Int} (H : Sq d a b c e) (u : Nat) : In40 (gp d a b c e u) := by
  have h1 := H.hd; have h2 := H.ha; have h3 := H.hb; have h4 := H.hc; have h5 := H.he
  unfold gp In40
  split <;> (refine ⟨⟨?_, ?_⟩, ?_, ?_⟩ <;> (dsimp only; omega))
theorem sgn_neg (x : Int) : sgn (-x) = - sgn x := by
  unfold sgn
  by_cases h : x > 0
  · rw [if_pos h, if_neg (by omega), if_pos (by omega)]
  · rw [if_neg h]
    by_cases h' : x < 0
    · rw [if_pos h', if_pos (by omega)]; rfl
    · rw [if_neg h', if_neg (by omega), if_neg (by omega)]; rfl
theorem sgS_turn : ∀ u < 8, ∀ v < 8, ∀ w < 8, sgS u w v = - sgS u v w := by decide +kernel
theorem sgS_ring : ∀ u < 8, ∀ v < 8, ∀ w < 8, sgS v w u = sgS u v w := by decide +kernel
theorem sgS_same : ∀ u < 8, ∀ v < 8, sgS u v v = 0 := by decide +kernel
theorem crI_same (a b : S25) : crI a b b = 0 := by
  unfold crI
  rw [Int.mul_comm]
  omega
section
variable {d a b c e : Int} (H : Sq d a b c e)
include H
theorem gp_crI (u v w : Nat) : crw (gp d a b c e u) (gp d a b c e v) (gp d a b c e w) = crI (gp d a b c e u) (gp d a b c e v) (gp d a b c e w) := crw_I (gp_40 H u) (gp_40 H v) (gp_40 H w)
def stm (d a b c e : Int) (u v w : Nat) : Prop := sgn (crI (gp d a b c e u) (gp d a b c e v) (gp d a b c e w)) = sgS u v w
theorem stm_base {u v w : Nat} (h1 : u < v) (h2 : v < w) (h3 : w < 8) : stm d a b c e u v w := by
  have := (sq_three H h1 h2 h3).1
  rw [gp_crI H] at this
  exact this
omit H in
theorem stm_turn {u v w : Nat} (hu : u < 8) (hv : v < 8) (hw : w < 8) (h : stm d a b c e u v w) : stm d a b c e u w v := by
  unfold stm at *
  rw [cr_turn, sgn_neg, h, sgS_turn u hu v hv w hw]
omit H in
theorem stm_ring {u v w : Nat} (hu : u < 8) (hv : v < 8) (hw : w < 8) (h : stm d a b c e u v w) : stm d a b c e v w u := by
  unfold stm at *
  rw [cr_ring, h, sgS_ring u hu v hv w hw]
omit H in
theorem stm_same {u v : Nat} (hu : u < 8) (hv : v < 8) : stm d a b c e u v v := by
  unfold stm
  rw [crI_same, sgS_same u hu v hv]
  rfl
theorem stm_all {u v w : Nat} (hu : u < 8) (hv : v < 8) (hw : w < 8) : stm d a b c e u v w := by
  rcases Nat.lt_trichotomy u v with h1 | rfl | h1
  · rcases Nat.lt_trichotomy v w with h2 | rfl | h2
    · exact stm_base H h1 h2 hw
    · exact stm_same hu hv
    · rcases Nat.lt_trichotomy u w with h3 | rfl | h3
      · exact stm_turn hu hw hv (stm_base H h3 h2 hv)
      · exact stm_ring hu hu hv (stm_ring hv hu hu (stm_same hv hu))
      · exact stm_ring hw hu hv (stm_base H h3 h1 hv)
  · exact stm_ring hw hu hu (stm_same hw hu)
  · rcases Nat.lt_trichotomy u w with h2 | rfl | h2
    · exact stm_ring hw hu hv (stm_ring hv hw hu (stm_turn hv hu hw (stm_base H h1 h2 hw)))
    · exact stm_ring hu hu hv (stm_ring hv hu hu (stm_same hv hu))
    · rcases Nat.lt_trichotomy v w with h3 | rfl | h3
      · exact stm_ring hw hu hv (stm_ring hv hw hu (stm_base H h3 h2 hu))
      · exact stm_same hu hv
      · exact stm_turn hu hw hv (stm_ring hv hu hw (stm_ring hw hv hu (stm_base H h3 h1 hu)))
theorem sq_sg {u v w : Nat} (hu : u < 8) (hv : v < 8) (hw : w < 8) : sgn (crw (gp d a b c e u) (gp d a b c e v) (gp d a b c e w)) = sgS u v w := by
  rw [gp_crI H]
  exact stm_all H hu hv hw
omit H in
theorem onB_comm {p q r : S25} (hp : In40 p) (hq : In40 q) (hr : In40 r) : onB p q r = onB q p r := by
  unfold onB
  have e1 : mn p.f0 q.f0 = mn q.f0 p.f0 := by unfold mn; split <;> split <;> omega
  have e2 : mx p.f0 q.f0 = mx q.f0 p.f0 := by unfold mx; split <;> split <;> omega
  have e3 : mn p.f1 q.f1 = mn q.f1 p.f1 := by unfold mn; split <;> split <;> omega
  have e4 : mx p.f1 q.f1 = mx q.f1 p.f1 := by unfold mx; split <;> split <;> omega
  rw [e1, e2, e3, e4, crw_I hp hq hr, crw_I hq hp hr]
  have e5 : crI q p r = - crI p q r := by rw [← cr_ring q p r, cr_turn p q r]
  rw [e5]
  congr 1
  exact decide_eq_decide.mpr (by omega)
theorem on_base {u v w : Nat} (huv : u < v) (hv : v < 8) (hw : w < 8) : onB (gp d a b c e u) (gp d a b c e v) (gp d a b c e w) = onS u v w := by
  rcases Nat.lt_trichotomy w u with h | rfl | h
  · have := (sq_three H h huv hv).2.2.1
    exact this
  · rw [onB_comm (gp_40 H _) (gp_40 H _) (gp_40 H _), onB_self]
    simp [onS]
  · rcases Nat.lt_trichotomy w v with h2 | rfl | h2
    · exact (sq_three H h h2 hv).2.2.2
    · rw [onB_self]
      simp [onS]
    · exact (sq_three H huv h2 hw).2.1
omit H in
theorem onS_comm : ∀ u < 8, ∀ v < 8, ∀ w < 8, onS u v w = onS v u w := by decide +kernel
omit H in
theorem onS_one : ∀ u < 8, ∀ w < 8, onS u u w = decide (w = u) := by decide +kernel
theorem sq_on {u v w : Nat} (hu : u < 8) (hv : v < 8) (hw : w < 8) : onB (gp d a b c e u) (gp d a b c e v) (gp d a b c e w) = onS u v w := by
  rcases Nat.lt_trichotomy u v with h | rfl | h
  · exact on_base H h hv hw
  · rw [onS_one u hu w hw]
    rcases Nat.lt_trichotomy u w with h | rfl | h
    · rw [(sq_two H h hw).1, decide_eq_false (by omega)]
    · rw [onB_self, decide_eq_true rfl]
    · rw [(sq_two H h hu).2, decide_eq_false (by omega)]
  · rw [onB_comm (gp_40 H _) (gp_40 H _) (gp_40 H _), onS_comm u hu v hv w hw]
    exact on_base H h hu hw
theorem gp_inj {u v : Nat} (hu : u < 8) (hv : v < 8) : gp d a b c e u = gp d a b c e v ↔ u = v := by
  refine ⟨fun h => ?_, fun h => by rw [h]⟩
  rcases Nat.lt_trichotomy u v with h1 | h1 | h1
  · have := (sq_two H h1 hv).1
    rw [← h, onB_self] at this; cases this
  · exact h1
  · have := (sq_two H h1 hu).1
    rw [h, onB_self] at this; cases this
end
def sharedN (u v w x : Nat) : List Nat := ([w, x].filter (onS u v)) ++ ([u, v].filter (onS w x))
def meetS (u v w x : Nat) : Int :=
  if sharedN u v w x = [] then (if wrap64 (sgS u v w * sgS u v x) < 0 ∧ wrap64 (sgS w x u * sgS w x v) < 0 then 2 else 0) else if (sharedN u v w x).all (fun p => (sharedN u v w x).all fun q => p == q) = true then 1 else 3
section
variable {d a b c e : Int} (H : Sq d a b c e)
include H
theorem filter_gp {u v : Nat} (hu : u < 8) (hv : v < 8) : ∀ l : List Nat, (∀ x ∈ l, x < 8) → (l.map (gp d a b c e)).filter (onB (gp d a b c e u) (gp d a b c e v)) = (l.filter (onS u v)).map (gp d a b c e)
  | [], _ => rfl
  | x :: l, h => by
    rw [List.map_cons, List.filter_cons, List.filter_cons, sq_on H hu hv (h x (List.mem_cons_self ..)), filter_gp hu hv l (fun y hy => h y (List.mem_cons_of_mem _ hy))]
    split <;> rfl
theorem meet_gp {u v w x : Nat} (hu : u < 8) (hv : v < 8) (hw : w < 8) (hx : x < 8) : meetV (gp d a b c e u) (gp d a b c e v) (gp d a b c e w) (gp d a b c e x) = meetS u v w x := by
  have hs : shared (gp d a b c e u) (gp d a b c e v) (gp d a b c e w) (gp d a b c e x) = (sharedN u v w x).map (gp d a b c e) := by
    unfold shared sharedN
    rw [List.map_append, ← filter_gp H hu hv [w, x] (by intro y hy; simp at hy; omega), ← filter_gp H hw hx [u, v] (by intro y hy; simp at hy; omega)]
    rfl
  have hm : ∀ y ∈ sharedN u v w x, y < 8 := by
    intro y hy
    unfold sharedN at hy
    rcases List.mem_append.mp hy with h | h
    · have := (List.mem_filter.mp h).1; simp at this; omega
    · have := (List.mem_filter.mp h).1; simp at this; omega
  obtain ⟨l1, l2⟩ := addL_len (shared (gp d a b c e u) (gp d a b c e v) (gp d a b c e w) (gp d a b c e x))
  unfold meetV meetS
  have hc : crossing (gp d a b c e u) (gp d a b c e v) (gp d a b c e w) (gp d a b c e x) ↔ (wrap64 (sgS u v w * sgS u v x) < 0 ∧ wrap64 (sgS w x u * sgS w x v) < 0) := by
    unfold crossing
    rw [sq_sg H hu hv hw, sq_sg H hu hv hx, sq_sg H hw hx hu, sq_sg H hw hx hv]
  rw [hs] at l1 l2 ⊢
  by_cases e0 : sharedN u v w x = []
  · rw [if_pos e0]
    have := l1.mpr (by rw [e0]; rfl)
    rw [this, if_neg (by simp), if_neg (by simp)]
    by_cases h : crossing (gp d a b c e u) (gp d a b c e v) (gp d a b c e w) (gp d a b c e x)
    · rw [if_pos h, if_pos (hc.mp h)]
    · rw [if_neg h, if_neg (fun z => h (hc.mpr z))]
  · rw [if_neg e0]
    have hne : ((sharedN u v w x).map (gp d a b c e)) ≠ [] := fun z => e0 (List.map_eq_nil_iff.mp z)
    have hl : addL [] ((sharedN u v w x).map (gp d a b c e)) ≠ [] := fun z => hne (l1.mp z)
    by_cases h1 : (sharedN u v w x).all (fun p => (sharedN u v w x).all fun q => p == q) = true
    · rw [if_pos h1]
      have : (addL [] ((sharedN u v w x).map (gp d a b c e))).length = 1 := by
        refine l2.mpr ⟨hne, fun p hp q hq => ?_⟩
        obtain ⟨y, hy, rfl⟩ := List.mem_map.mp hp
        obtain ⟨z, hz, rfl⟩ := List.mem_map.mp hq
        rw [eq_of_beq (List.all_eq_true.mp (List.all_eq_true.mp h1 y hy) z hz)]
      rw [this, if_neg (by omega), if_pos rfl]
    · rw [if_neg h1]
      have h2 : ¬ (addL [] ((sharedN u v w x).map (gp d a b c e))).length = 1 := fun z => h1 (by
        have z2 := (l2.mp z).2
        refine List.all_eq_true.mpr fun p hp => List.all_eq_true.mpr fun q hq => ?_
        have := z2 _ (List.mem_map.mpr ⟨p, hp, rfl⟩) _ (List.mem_map.mpr ⟨q, hq, rfl⟩)
        exact beq_iff_eq.mpr ((gp_inj H (hm p hp) (hm q hq)).mp this))
      have h3 : (addL [] ((sharedN u v w x).map (gp d a b c e))).length ≠ 0 := fun z => hl (List.eq_nil_of_length_eq_zero z)
      rw [if_pos (by omega)]
end

/-! Ears, at the slots -/
def at_ (S : List Nat) (i : Nat) : Nat := S.getD i 0
theorem at_lt {S : List Nat} (h : ∀ x ∈ S, x < 8) (i : Nat) : at_ S i < 8 := by
  unfold at_
  rw [List.getD_eq_getElem?_getD]
  by_cases c : i < S.length
  · rw [List.getElem?_eq_getElem c]; exact h _ (List.getElem_mem c)
  · rw [List.getElem?_eq_none (by omega)]; decide
theorem rd_map (G : Nat → S25) (S : List Nat) {i : Nat} (h : i < S.length) : rd_T25 (S.map G) (i : Int) = G (at_ S i) := by
  rw [rdT_nat _ i (by rw [List.length_map]; exact h), List.getElem_map]
  unfold at_
  rw [List.getD_eq_getElem?_getD, List.getElem?_eq_getElem h]
  rfl
def dlS (S : List Nat) (i k : Nat) : Nat → Nat → Bool
  | 0, _ => true
  | m + 1, j => if meetS (at_ S i) (at_ S k) (at_ S j) (at_ S ((j + 1) % S.length)) = diWant S.length i k j then dlS S i k m (j + 1) else false
def parS (S : List Nat) (f : Nat → Bool) : Nat → Nat → Bool → Bool
  | 0, _, odd => odd
  | m + 1, j, odd => parS S f m (j + 1) (if (f (at_ S j) && !f (at_ S ((j + 1) % S.length))) = true then !odd else odd)
def fS (p q : Bool) : Nat → Bool
  | 3 => p
  | 4 => false
  | 5 => false
  | 6 => false
  | 7 => q
  | _ => true
def posS (S : List Nat) (i k : Nat) : Bool := (List.range S.length).all fun j => decide (0 ≤ sgS (at_ S j) (at_ S ((j + 1) % S.length)) (at_ S i) ∧ 0 ≤ sgS (at_ S j) (at_ S ((j + 1) % S.length)) (at_ S k) ∧ 0 < sgS (at_ S j) (at_ S ((j + 1) % S.length)) (at_ S i) + sgS (at_ S j) (at_ S ((j + 1) % S.length)) (at_ S k))
def isTop (u : Nat) : Bool := decide (4 ≤ u ∧ u ≤ 6)
def parK (S : List Nat) (i k : Nat) (p q : Bool) : Bool := !(fS p q (at_ S i) || fS p q (at_ S k)) || parS S (fS p q) S.length 0 false
def okEar (S : List Nat) (i k : Nat) : Bool := !dlS S i k S.length 0 || (posS S i k && (!(isTop (at_ S i) && isTop (at_ S k)) && (parK S i k true true && (parK S i k true false && (parK S i k false true && parK S i k false false)))))
section
variable {d a b c e : Int} (H : Sq d a b c e)
include H
theorem dl_gp {S : List Nat} (hS : ∀ x ∈ S, x < 8) {i k : Nat} (hi : i < S.length) (hk : k < S.length) : ∀ m j, j + m = S.length → diLoop (S.map (gp d a b c e)) i k m j = some (dlS S i k m j)
  | 0, _, _ => rfl
  | m + 1, j, hj => by
    have hn : (j + 1) % S.length < S.length := Nat.mod_lt _ (by omega)
    rw [diLoop, dlS, List.length_map, rd_map _ S hi, rd_map _ S hk, rd_map _ S (show j < S.length by omega), rd_map _ S hn]
    show (impl_meet.g _ _ _ _).bind _ = _
    rw [meet_f, Option.bind_some, meet_gp H (at_lt hS _) (at_lt hS _) (at_lt hS _) (at_lt hS _)]
    split
    · exact dl_gp hS hi hk m (j + 1) (by omega)
    · rfl
def dbl (p : S25) : S25 := ⟨2 * p.f0, 2 * p.f1⟩
theorem dbl_gp {S : List Nat} : ∀ m j (x : List S25), j + m = S.length → diDbl (S.map (gp d a b c e)) m j x = x ++ ((S.drop j).map fun u => dbl (gp d a b c e u))
  | 0, j, x, hj => by rw [diDbl, List.drop_eq_nil_of_le (by omega)]; simp
  | m + 1, j, x, hj => by
    have hlt : j < S.length := by omega
    obtain ⟨⟨h1, h2⟩, h3, h4⟩ := gp_40 H (at_ S j)
    rw [diDbl, rd_map _ S hlt, w64 (x := 2 * (gp d a b c e (at_ S j)).f0) (by omega) (by omega), w64 (x := 2 * (gp d a b c e (at_ S j)).f1) (by omega) (by omega), dbl_gp m (j + 1) _ (by omega), List.drop_eq_getElem_cons hlt, List.map_cons, List.append_assoc]
    have : at_ S j = S[j] := by unfold at_; rw [List.getD_eq_getElem?_getD, List.getElem?_eq_getElem hlt]; rfl
    rw [this]
    rfl
def mid (p q : S25) : S25 := ⟨p.f0 + q.f0, p.f1 + q.f1⟩
omit H in
theorem cr_dbl (a b p q : S25) : crI (dbl a) (dbl b) (mid p q) = 2 * (crI a b p + crI a b q) := by
  unfold crI dbl mid
  simp only [Int.sub_mul, Int.mul_sub, Int.mul_add, Int.add_mul, Int.mul_assoc]
  simp only [Int.mul_left_comm _ 2 _]
  omega
end

section
variable {d a b c e : Int} (H : Sq d a b c e)
include H
omit H in
theorem in_dbl {p : S25} (h : In40 p) : (0 ≤ (dbl p).f0 ∧ (dbl p).f0 ≤ 80) ∧ (0 ≤ (dbl p).f1 ∧ (dbl p).f1 ≤ 80) := by
  obtain ⟨⟨h1, h2⟩, h3, h4⟩ := h
  unfold dbl
  dsimp only
  omega
omit H in
theorem mul_80 {x y : Int} (h0 : -80 ≤ x) (h1 : x ≤ 80) (h2 : -80 ≤ y) (h3 : y ≤ 80) : -6400 ≤ x * y ∧ x * y ≤ 6400 := by
  have a1 : x.natAbs * y.natAbs ≤ 80 * 80 := Nat.mul_le_mul (by omega) (by omega)
  have a2 : (x * y).natAbs = x.natAbs * y.natAbs := Int.natAbs_mul x y
  omega
omit H in
theorem crw_80 {a b p : S25} (ha : (0 ≤ a.f0 ∧ a.f0 ≤ 80) ∧ (0 ≤ a.f1 ∧ a.f1 ≤ 80)) (hb : (0 ≤ b.f0 ∧ b.f0 ≤ 80) ∧ (0 ≤ b.f1 ∧ b.f1 ≤ 80)) (hp : (0 ≤ p.f0 ∧ p.f0 ≤ 80) ∧ (0 ≤ p.f1 ∧ p.f1 ≤ 80)) : crw a b p = crI a b p := by
  obtain ⟨⟨a1, a2⟩, a3, a4⟩ := ha
  obtain ⟨⟨b1, b2⟩, b3, b4⟩ := hb
  obtain ⟨⟨p1, p2⟩, p3, p4⟩ := hp
  unfold crw crI
  rw [w64 (x := b.f0 - a.f0) (by omega) (by omega), w64 (x := p.f1 - a.f1) (by omega) (by omega), w64 (x := b.f1 - a.f1) (by omega) (by omega), w64 (x := p.f0 - a.f0) (by omega) (by omega)]
  have h1 := mul_80 (x := b.f0 - a.f0) (y := p.f1 - a.f1) (by omega) (by omega) (by omega) (by omega)
  have h2 := mul_80 (x := b.f1 - a.f1) (y := p.f0 - a.f0) (by omega) (by omega) (by omega) (by omega)
  generalize (b.f0 - a.f0) * (p.f1 - a.f1) = u at *
  generalize (b.f1 - a.f1) * (p.f0 - a.f0) = v at *
  rw [w64 (x := u) (by omega) (by omega), w64 (x := v) (by omega) (by omega), w64 (by omega) (by omega)]
omit H in
theorem in_mid {p q : S25} (hp : In40 p) (hq : In40 q) : (0 ≤ (mid p q).f0 ∧ (mid p q).f0 ≤ 80) ∧ (0 ≤ (mid p q).f1 ∧ (mid p q).f1 ≤ 80) := by
  obtain ⟨⟨h1, h2⟩, h3, h4⟩ := hp
  obtain ⟨⟨h5, h6⟩, h7, h8⟩ := hq
  unfold mid
  dsimp only
  omega
omit H in
theorem sgn_nn {x : Int} (h : 0 ≤ sgn x) : 0 ≤ x := by
  unfold sgn at h
  split at h
  · omega
  · split at h <;> omega
omit H in
theorem sgn_pos {x : Int} (h : 0 < sgn x) : 0 < x := by
  unfold sgn at h
  split at h
  · omega
  · split at h <;> omega
theorem in_side {u v i k : Nat} (hu : u < 8) (hv : v < 8) (hi : i < 8) (hk : k < 8) (h1 : 0 ≤ sgS u v i) (h2 : 0 ≤ sgS u v k) (h3 : 0 < sgS u v i + sgS u v k) (odd : Bool) :
    onB (dbl (gp d a b c e u)) (dbl (gp d a b c e v)) (mid (gp d a b c e i) (gp d a b c e k)) = false ∧
    inSide (dbl (gp d a b c e u)) (dbl (gp d a b c e v)) (mid (gp d a b c e i) (gp d a b c e k)) odd = some (if (decide ((dbl (gp d a b c e u)).f1 ≤ (mid (gp d a b c e i) (gp d a b c e k)).f1) && !decide ((dbl (gp d a b c e v)).f1 ≤ (mid (gp d a b c e i) (gp d a b c e k)).f1)) = true then !odd else odd) := by
  have hU := in_dbl (gp_40 H u)
  have hV := in_dbl (gp_40 H v)
  have hX := in_mid (gp_40 H i) (gp_40 H k)
  have s1 := stm_all H hu hv hi
  have s2 := stm_all H hu hv hk
  unfold stm at s1 s2
  have c0 := cr_dbl (gp d a b c e u) (gp d a b c e v) (gp d a b c e i) (gp d a b c e k)
  have p1 := sgn_nn (s1 ▸ h1)
  have p2 := sgn_nn (s2 ▸ h2)
  have p3 : 0 < crI (gp d a b c e u) (gp d a b c e v) (gp d a b c e i) + crI (gp d a b c e u) (gp d a b c e v) (gp d a b c e k) := by
    rcases (show 0 < sgS u v i ∨ 0 < sgS u v k by omega) with h | h
    · have := sgn_pos (s1 ▸ h); omega
    · have := sgn_pos (s2 ▸ h); omega
  generalize dbl (gp d a b c e u) = A at *
  generalize dbl (gp d a b c e v) = B at *
  generalize mid (gp d a b c e i) (gp d a b c e k) = X at *
  have q1 : 0 < crI A B X := by omega
  have q2 : crI B A X < 0 := by
    have e5 : crI B A X = - crI A B X := by rw [← cr_ring B A X, cr_turn A B X]
    omega
  refine ⟨?_, ?_⟩
  · unfold onB
    rw [crw_80 hU hV hX, decide_eq_false (by omega)]
    rfl
  · unfold inSide inTest
    by_cases c1 : A.f1 > B.f1
    · rw [if_pos c1]
      have hb : (decide (A.f1 ≤ X.f1) && !decide (B.f1 ≤ X.f1)) = false := by
        by_cases g : A.f1 ≤ X.f1
        · rw [decide_eq_true (show B.f1 ≤ X.f1 by omega)]; simp
        · rw [decide_eq_false g]; rfl
      rw [hb, if_neg Bool.false_ne_true]
      split
      · split
        · show (some (crw B A X)).bind _ = _
          rw [Option.bind_some, crw_80 hV hU hX, if_neg (by omega)]
        · rfl
      · rfl
    · rw [if_neg c1]
      by_cases g : A.f1 ≤ X.f1
      · rw [if_pos g, decide_eq_true g]
        by_cases g2 : X.f1 < B.f1
        · rw [if_pos g2, decide_eq_false (show ¬ B.f1 ≤ X.f1 by omega)]
          show (some (crw A B X)).bind _ = _
          rw [Option.bind_some, crw_80 hU hV hX, if_pos q1]
          rfl
        · rw [if_neg g2, decide_eq_true (show B.f1 ≤ X.f1 by omega)]
          rfl
      · rw [if_neg g, decide_eq_false g]
        rfl
theorem y_row {i k : Nat} (hi : i < 8) (hk : k < 8) (ht : (isTop i && isTop k) = false) {u : Nat} (hu : u < 8) :
    decide ((dbl (gp d a b c e u)).f1 ≤ (mid (gp d a b c e i) (gp d a b c e k)).f1) = fS (decide ((dbl (gp d a b c e 3)).f1 ≤ (mid (gp d a b c e i) (gp d a b c e k)).f1)) (decide ((dbl (gp d a b c e 7)).f1 ≤ (mid (gp d a b c e i) (gp d a b c e k)).f1)) u := by
  have h1 := H.hd; have h3 := H.hb; have h5 := H.he
  have hm := (in_mid (gp_40 H i) (gp_40 H k)).2.1
  have ylt : ∀ {u : Nat}, u < 8 → isTop u = false → (gp d a b c e u).f1 ≤ d - 1 := by
    intro u hu h
    rcases lt8 hu with rfl | rfl | rfl | rfl | rfl | rfl | rfl | rfl <;> first | (exact absurd h (by decide)) | (show e ≤ d - 1; omega) | (show b ≤ d - 1; omega) | (show (0 : Int) ≤ d - 1; omega)
  have yle : ∀ u : Nat, (gp d a b c e u).f1 ≤ d := by
    intro u
    unfold gp
    split <;> (dsimp only; omega)
  have htop : (mid (gp d a b c e i) (gp d a b c e k)).f1 < 2 * d := by
    unfold mid
    dsimp only
    have y1 := yle i
    have y2 := yle k
    rcases Bool.and_eq_false_iff.mp ht with h | h
    · have := ylt hi h; omega
    · have := ylt hk h; omega
  generalize (mid (gp d a b c e i) (gp d a b c e k)).f1 = m at *
  rcases lt8 hu with rfl | rfl | rfl | rfl | rfl | rfl | rfl | rfl
  · exact decide_eq_true (show 2 * (0 : Int) ≤ m by omega)
  · exact decide_eq_true (show 2 * (0 : Int) ≤ m by omega)
  · exact decide_eq_true (show 2 * (0 : Int) ≤ m by omega)
  · rfl
  · exact decide_eq_false (show ¬ 2 * d ≤ m by omega)
  · exact decide_eq_false (show ¬ 2 * d ≤ m by omega)
  · exact decide_eq_false (show ¬ 2 * d ≤ m by omega)
  · rfl
end

section
variable {d a b c e : Int} (H : Sq d a b c e)
include H
theorem in_gp {S : List Nat} (hS : ∀ x ∈ S, x < 8) {i k : Nat} (hp : posS S i k = true) (f : Nat → Bool)
    (hf : ∀ u < 8, decide ((dbl (gp d a b c e u)).f1 ≤ (mid (gp d a b c e (at_ S i)) (gp d a b c e (at_ S k))).f1) = f u) :
    ∀ m j odd, j + m = S.length → inLoop (S.map fun u => dbl (gp d a b c e u)) (mid (gp d a b c e (at_ S i)) (gp d a b c e (at_ S k))) m j odd = some (parS S f m j odd)
  | 0, _, _, _ => rfl
  | m + 1, j, odd, hj => by
    have hlt : j < S.length := by omega
    have hn : (j + 1) % S.length < S.length := Nat.mod_lt _ (by omega)
    have h1 := of_decide_eq_true (List.all_eq_true.mp hp j (List.mem_range.mpr hlt))
    obtain ⟨o1, o2⟩ := in_side H (at_lt hS j) (at_lt hS ((j + 1) % S.length)) (at_lt hS i) (at_lt hS k) h1.1 h1.2.1 h1.2.2 odd
    rw [inLoop, parS, List.length_map, rd_map (fun u => dbl (gp d a b c e u)) S hlt, rd_map (fun u => dbl (gp d a b c e u)) S hn, on_f, Option.bind_some, o1, if_neg Bool.false_ne_true, o2, Option.bind_some, hf _ (at_lt hS _), hf _ (at_lt hS _)]
    exact in_gp hS hp f hf m (j + 1) _ (by omega)
theorem diag_gp {S : List Nat} (hS : ∀ x ∈ S, x < 8) (h3 : 3 ≤ S.length ∧ S.length ≤ 10) {i k : Nat} (hi : i < S.length) (hk : k < S.length) (ho : okEar S i k = true) : diG (S.map (gp d a b c e)) i k = some (dlS S i k S.length 0) := by
  unfold diG
  rw [List.length_map, dl_gp H hS hi hk _ _ (by omega), Option.bind_some]
  cases hd : dlS S i k S.length 0 with
  | false => rfl
  | true =>
    rw [if_pos rfl, dbl_gp H _ _ _ (by omega), List.nil_append, List.drop_zero, rd_map _ S hi, rd_map _ S hk]
    obtain ⟨⟨x1, x2⟩, x3, x4⟩ := gp_40 H (at_ S i)
    obtain ⟨⟨y1, y2⟩, y3, y4⟩ := gp_40 H (at_ S k)
    rw [w64 (x := (gp d a b c e (at_ S i)).f0 + (gp d a b c e (at_ S k)).f0) (by omega) (by omega), w64 (x := (gp d a b c e (at_ S i)).f1 + (gp d a b c e (at_ S k)).f1) (by omega) (by omega)]
    unfold okEar at ho
    rw [hd] at ho
    simp only [Bool.not_true, Bool.false_or, Bool.and_eq_true, Bool.not_eq_true'] at ho
    obtain ⟨o1, o2, o3, o4, o5, o6⟩ := ho
    have hy : ∀ u < 8, _ := fun u hu => y_row H (at_lt hS i) (at_lt hS k) o2 hu
    have := in_gp H hS o1 _ hy S.length 0 false (by omega)
    have hor : (decide ((dbl (gp d a b c e (at_ S i))).f1 ≤ (mid (gp d a b c e (at_ S i)) (gp d a b c e (at_ S k))).f1) || decide ((dbl (gp d a b c e (at_ S k))).f1 ≤ (mid (gp d a b c e (at_ S i)) (gp d a b c e (at_ S k))).f1)) = true := by
      unfold dbl mid
      dsimp only
      rcases Int.le_total (gp d a b c e (at_ S i)).f1 (gp d a b c e (at_ S k)).f1 with g | g
      · rw [decide_eq_true (by omega), Bool.true_or]
      · rw [Bool.or_comm, decide_eq_true (by omega), Bool.true_or]
    rw [hy _ (at_lt hS i), hy _ (at_lt hS k)] at hor
    unfold parK at o3 o4 o5 o6
    unfold impl_isIn.f
    rw [List.length_map, if_pos h3]
    refine this.trans (congrArg some ?_)
    revert hor
    cases decide ((dbl (gp d a b c e 3)).f1 ≤ (mid (gp d a b c e (at_ S i)) (gp d a b c e (at_ S k))).f1) <;> cases decide ((dbl (gp d a b c e 7)).f1 ≤ (mid (gp d a b c e (at_ S i)) (gp d a b c e (at_ S k))).f1)
    · intro hor; rw [hor, Bool.not_true, Bool.false_or] at o6; exact o6
    · intro hor; rw [hor, Bool.not_true, Bool.false_or] at o5; exact o5
    · intro hor; rw [hor, Bool.not_true, Bool.false_or] at o4; exact o4
    · intro hor; rw [hor, Bool.not_true, Bool.false_or] at o3; exact o3
def prv (n k : Nat) : Nat := (k + n - 1) % n
def nxt (n k : Nat) : Nat := (k + 1) % n
def earS (S : List Nat) (k : Nat) : Bool := decide (S.length = 3) || dlS S (prv S.length k) (nxt S.length k) S.length 0
def okE (S : List Nat) (k : Nat) : Bool := decide (S.length = 3) || (decide (diOk S.length (prv S.length k) (nxt S.length k)) && okEar S (prv S.length k) (nxt S.length k))
theorem ear_gp {S : List Nat} (hS : ∀ x ∈ S, x < 8) (h3 : 3 ≤ S.length ∧ S.length ≤ 10) {k : Nat} (hk : k < S.length) (ho : okE S k = true) : Ev (fun f => impl_isEar.f f (S.map (gp d a b c e)) (k : Int)) (earS S k) := by
  refine Ev.step (f := fun _ => some (earS S k)) (fun f => ?_) (Ev.now _)
  unfold impl_isEar.f
  have e1 : wrap64 ((S.length : Int) - 1) = ((S.length - 1 : Nat) : Int) := by rw [w64 (by omega) (by omega)]; omega
  rw [List.length_map, within_f, Option.bind_some, e1, decide_eq_true (by omega), if_pos rfl]
  unfold earS
  unfold okE at ho
  by_cases c3 : S.length = 3
  · rw [if_pos (by omega), decide_eq_true c3, Bool.true_or]
  · rw [if_neg (by omega), if_neg (by omega), decide_eq_false c3, Bool.false_or]
    rw [decide_eq_false c3, Bool.false_or, Bool.and_eq_true] at ho
    obtain ⟨o1, o2⟩ := ho
    have o1 := of_decide_eq_true o1
    have e2 : Int.tmod (wrap64 ((wrap64 ((k : Int) + (S.length : Int))) - 1)) (S.length : Int) = ((prv S.length k : Nat) : Int) := by
      rw [w64 (x := (k : Int) + (S.length : Int)) (by omega) (by omega), w64 (by omega) (by omega), show (k : Int) + (S.length : Int) - 1 = ((k + S.length - 1 : Nat) : Int) by omega]
      exact (Int.ofNat_tmod _ _).symm
    have e3 : Int.tmod (wrap64 ((k : Int) + 1)) (S.length : Int) = ((nxt S.length k : Nat) : Int) := by
      rw [w64 (by omega) (by omega), show (k : Int) + 1 = ((k + 1 : Nat) : Int) by omega]
      exact (Int.ofNat_tmod _ _).symm
    rw [e2, e3]
    unfold impl_isDiagonal.f
    rw [List.length_map, Int.toNat_natCast, Int.toNat_natCast, if_pos ⟨by omega, by omega, o1⟩, diag_gp H hS h3 o1.2.2.1 o1.2.2.2.1 o2]
    rfl
end

def polyS (S : List Nat) : Bool := decide (3 ≤ S.length ∧ S.length ≤ 10) && ((List.range S.length).all (fun i => !(at_ S i == at_ S (nx S.length i))) && (List.range S.length).all fun i => (List.range' (i + 1) (S.length - (i + 1))).all fun k => meetS (at_ S i) (at_ S (nx S.length i)) (at_ S k) (at_ S (nx S.length k)) == wantV S.length i k)
def triN (a b c : Nat) : List Nat := if a ≤ b then (if b ≤ c then [a, b, c] else if a ≤ c then [a, c, b] else [c, a, b]) else (if a ≤ c then [b, a, c] else if b ≤ c then [b, c, a] else [c, b, a])
def toI (l : List Nat) : List Int := l.map Int.ofNat
theorem triN_f (a b c : Nat) : trTri (a : Int) (b : Int) (c : Int) = toI (triN a b c) := by
  unfold trTri
  have hp : ([(a : Int), b, c].mergeSort fun a b => decide (a ≤ b)).Perm [(a : Int), b, c] := List.mergeSort_perm _ _
  have hs : ([(a : Int), b, c].mergeSort fun a b => decide (a ≤ b)).Pairwise (fun a b => decide (a ≤ b) = true) := List.pairwise_mergeSort (fun a b c h1 h2 => by simp only [decide_eq_true_eq] at *; omega) (fun a b => by simp only [Bool.or_eq_true, decide_eq_true_eq]; omega) _
  refine List.Perm.eq_of_pairwise (le := fun a b => decide (a ≤ b) = true) (fun x y _ _ h1 h2 => by simp only [decide_eq_true_eq] at h1 h2; omega) hs ?_ (hp.trans ?_)
  · unfold toI triN
    split <;> split <;> (try split) <;> simp <;> omega
  · unfold toI triN
    have sw1 : ∀ x y z : Int, [x, y, z].Perm [y, x, z] := fun x y z => List.Perm.swap y x [z]
    have sw2 : ∀ x y z : Int, [x, y, z].Perm [x, z, y] := fun x y z => (List.Perm.swap z y []).cons x
    split
    · split
      · exact List.Perm.refl _
      · split
        · exact sw2 _ _ _
        · exact (sw2 _ _ _).trans (sw1 _ _ _)
    · split
      · exact sw1 _ _ _
      · split
        · exact (sw1 _ _ _).trans (sw2 _ _ _)
        · exact ((sw1 _ _ _).trans (sw2 _ _ _)).trans (sw1 _ _ _)
def trEarS (S : List Nat) : Nat → Nat → Option Nat
  | 0, j => some j
  | m + 1, j => if okE S j = true then (if earS S j = true then some j else trEarS S m (j + 1)) else none
def curS (S left : List Nat) : List Nat := left.map (at_ S)
def trLoopS (S : List Nat) : Nat → List Nat → List (List Int) → Option (List (List Int) × Bool)
  | 0, _, _ => none
  | m + 1, left, out =>
    if 3 < left.length then (trEarS (curS S left) left.length 0).bind fun j => if j = left.length then some ([], false) else trLoopS S m (left.eraseIdx j) (out ++ [toI (triN (at_ left ((j + left.length - 1) % left.length)) (at_ left j) (at_ left ((j + 1) % left.length)))])
    else some (out ++ [toI (triN (at_ left 0) (at_ left 1) (at_ left 2))], true)
theorem erase_toI : ∀ (l : List Nat) (j : Nat), (toI l).eraseIdx j = toI (l.eraseIdx j)
  | [], _ => by simp [toI]
  | x :: l, 0 => rfl
  | x :: l, j + 1 => by
    show (Int.ofNat x :: (toI l).eraseIdx j) = _
    rw [erase_toI l j]; rfl
theorem rd_toI (l : List Nat) (i : Nat) (h : i < l.length) : rd (toI l) (i : Int) = ((at_ l i : Nat) : Int) := by
  rw [rd_get _ i (by unfold toI; rw [List.length_map]; exact h)]
  unfold toI at_
  rw [List.getElem_map, List.getD_eq_getElem?_getD, List.getElem?_eq_getElem h]
  rfl
theorem len_toI (l : List Nat) : (toI l).length = l.length := by unfold toI; rw [List.length_map]
theorem trEarS_le {S : List Nat} : ∀ m j r, trEarS S m j = some r → r ≤ j + m
  | 0, j, r, h => by
    obtain rfl := Option.some.inj h
    omega
  | m + 1, j, r, h => by
    rw [trEarS] at h
    split at h
    · split at h
      · obtain rfl := Option.some.inj h
        omega
      · have := trEarS_le m (j + 1) r h
        omega
    · cases h
section
variable {d a b c e : Int} (H : Sq d a b c e)
include H
theorem poly_gp {S : List Nat} (hS : ∀ x ∈ S, x < 8) (h : polyS S = true) : polyB (S.map (gp d a b c e)) = true := by
  unfold polyS at h
  simp only [Bool.and_eq_true] at h
  obtain ⟨h1, h2, h3⟩ := h
  have n3 := of_decide_eq_true h1
  unfold polyB
  rw [List.length_map]
  simp only [Bool.and_eq_true]
  refine ⟨h1, ?_, ?_, ?_⟩
  · refine List.all_eq_true.mpr fun p hp => ?_
    obtain ⟨u, hu, rfl⟩ := List.mem_map.mp hp
    obtain ⟨g1, g2⟩ := gp_40 H u
    unfold ptOk
    rw [decide_eq_true g1, decide_eq_true g2]
    rfl
  · refine List.all_eq_true.mpr fun i hi => ?_
    have hi' := List.mem_range.mp hi
    have hn : nx S.length i < S.length := nx_lt (by omega)
    have := List.all_eq_true.mp h2 i hi
    unfold pt
    rw [rd_map _ S hi', rd_map _ S hn]
    cases e : eqPt (gp d a b c e (at_ S i)) (gp d a b c e (at_ S (nx S.length i))) with
    | false => rfl
    | true =>
      have e1 := (gp_inj H (at_lt hS _) (at_lt hS _)).mp ((eqPt_iff _ _).mp e)
      rw [e1] at this
      simp at this
  · refine List.all_eq_true.mpr fun i hi => List.all_eq_true.mpr fun k hk => ?_
    have hi' := List.mem_range.mp hi
    have hk' := List.mem_range'_1.mp hk
    have hn : nx S.length i < S.length := nx_lt (by omega)
    have hn2 : nx S.length k < S.length := nx_lt (by omega)
    have := List.all_eq_true.mp (List.all_eq_true.mp h3 i hi) k hk
    unfold meetsB pt
    rw [List.length_map, rd_map _ S hi', rd_map _ S hn, rd_map _ S (show k < S.length by omega), rd_map _ S hn2, meet_gp H (at_lt hS _) (at_lt hS _) (at_lt hS _) (at_lt hS _)]
    exact this
theorem trEar_gp {S : List Nat} (hS : ∀ x ∈ S, x < 8) (h3 : 3 ≤ S.length ∧ S.length ≤ 10) : ∀ m j r, j + m = S.length → trEarS S m j = some r → Ev (fun k => trEar k (S.map (gp d a b c e)) m j) r
  | 0, j, r, hj, h => by
    obtain rfl := Option.some.inj h
    exact Ev.now _
  | m + 1, j, r, hj, h => by
    rw [trEarS] at h
    by_cases ho : okE S j = true
    · rw [if_pos ho] at h
      have he := ear_gp H hS h3 (show j < S.length by omega) ho
      refine Ev.bind he ?_
      by_cases c : earS S j = true
      · rw [if_pos c] at h
        obtain rfl := Option.some.inj h
        simp only [if_pos c]
        exact Ev.now _
      · rw [if_neg c] at h
        simp only [if_neg c]
        exact trEar_gp hS h3 m (j + 1) r (by omega) h
    · rw [if_neg ho] at h; cases h
theorem trLoop_gp {S : List Nat} (hS : ∀ x ∈ S, x < 8) : ∀ m left out r, left.length ≤ 10 → (∀ x ∈ left, x < S.length) → 3 ≤ left.length → trLoopS S m left out = some r → Ev (fun k => trLoop k (S.map (gp d a b c e)) m (toI left) out) r
  | 0, _, _, _, _, _, _, h => by rw [trLoopS] at h; cases h
  | m + 1, left, out, r, hl, hx, h3, h => by
    rw [trLoopS] at h
    have hnow : trNow (S.map (gp d a b c e)) (toI left) = (curS S left).map (gp d a b c e) := by
      unfold trNow toI curS
      rw [List.map_map, List.map_map]
      refine List.map_congr_left fun x hx' => ?_
      exact rd_map _ S (hx x hx')
    have hc8 : ∀ x ∈ curS S left, x < 8 := by
      intro x hx'
      obtain ⟨y, _, rfl⟩ := List.mem_map.mp hx'
      exact at_lt hS y
    have hcl : (curS S left).length = left.length := by unfold curS; rw [List.length_map]
    by_cases c3 : 3 < left.length
    · rw [if_pos c3] at h
      obtain ⟨j, hj, h⟩ := Option.bind_eq_some_iff.mp h
      have h1 := trEar_gp H hc8 (by rw [hcl]; omega) left.length 0 j (by rw [hcl]; omega) hj
      have hj2 := trEarS_le _ _ _ hj
      refine Ev.congr (f := fun k => (trEar k ((curS S left).map (gp d a b c e)) left.length 0).bind fun j => if j = left.length then some ([], false) else trLoop k (S.map (gp d a b c e)) m ((toI left).eraseIdx j) (out ++ [trCut (toI left) j])) (fun k => ?_) (Ev.bind h1 ?_)
      · rw [trLoop, len_toI, if_pos c3, hnow]
      · by_cases c4 : j = left.length
        · rw [if_pos c4] at h
          obtain rfl := Option.some.inj h
          simp only [if_pos c4]
          exact Ev.now _
        · rw [if_neg c4] at h
          simp only [if_neg c4]
          have hjl : j < left.length := by omega
          rw [erase_toI]
          have hcut : trCut (toI left) j = toI (triN (at_ left ((j + left.length - 1) % left.length)) (at_ left j) (at_ left ((j + 1) % left.length))) := by
            unfold trCut
            rw [len_toI, rd_toI _ _ (Nat.mod_lt _ (by omega)), rd_toI _ _ hjl, rd_toI _ _ (Nat.mod_lt _ (by omega)), triN_f]
          rw [hcut]
          refine trLoop_gp hS m _ _ r ?_ (fun x hx' => hx x (List.mem_of_mem_eraseIdx hx')) ?_ h
          · rw [List.length_eraseIdx]; split <;> omega
          · rw [List.length_eraseIdx, if_pos hjl]; omega
    · rw [if_neg c3] at h
      obtain rfl := Option.some.inj h
      refine Ev.congr (fun k => ?_) (Ev.now _)
      rw [trLoop, len_toI, if_neg c3]
      have z : (0 : Int) = ((0 : Nat) : Int) := rfl
      have o : (1 : Int) = ((1 : Nat) : Int) := rfl
      have t : (2 : Int) = ((2 : Nat) : Int) := rfl
      rw [z, o, t, rd_toI _ _ (by omega), rd_toI _ _ (by omega), rd_toI _ _ (by omega), triN_f]
theorem tri_gp {S : List Nat} (hS : ∀ x ∈ S, x < 8) (hp : polyS S = true) {r : List (List Int) × Bool} (h : trLoopS S S.length (List.range S.length) [] = some r) : Ev (fun k => impl_Triangulate.f k (S.map (gp d a b c e))) r := by
  have h3 : 3 ≤ S.length ∧ S.length ≤ 10 := by
    unfold polyS at hp
    rw [Bool.and_eq_true] at hp
    exact of_decide_eq_true hp.1
  unfold impl_Triangulate.f
  refine Ev.bind (impl_poly _ (by rw [List.length_map]; omega)) ?_
  rw [poly_gp H hS hp, List.length_map]
  simp only [if_true]
  exact trLoop_gp H hS S.length (List.range S.length) [] r (by rw [List.length_range]; omega) (fun x hx => List.mem_range.mp hx) (by rw [List.length_range]; omega) h
end
def slots (p q r s : Bool) : List Nat := [0] ++ (if p = true then [1] else []) ++ [2] ++ (if q = true then [3] else []) ++ [4] ++ (if r = true then [5] else []) ++ [6] ++ (if s = true then [7] else [])
theorem slots_8 : ∀ p q r s : Bool, (slots p q r s).all (fun x => decide (x < 8)) = true := by decide +kernel
theorem slots_poly : ∀ p q r s : Bool, polyS (slots p q r s) = true := by decide +kernel
def trisS (p q r s : Bool) : List (List Int) := ((trLoopS (slots p q r s) (slots p q r s).length (List.range (slots p q r s).length) []).getD ([], false)).1
theorem slots_tri : ∀ p q r s : Bool, trLoopS (slots p q r s) (slots p q r s).length (List.range (slots p q r s).length) [] = some (trisS p q r s, true) := by decide +kernel

def trisE : Bool → Bool → Bool → Bool → List (List Int)
  | false, false, false, false => [[0, 1, 3], [1, 2, 3]]
  | false, false, false, true => [[0, 1, 4], [1, 2, 4], [2, 3, 4]]
  | false, false, true, false => [[0, 1, 4], [1, 2, 3], [1, 3, 4]]
  | false, false, true, true => [[0, 1, 5], [1, 2, 5], [2, 3, 5], [3, 4, 5]]
  | false, true, false, false => [[0, 1, 4], [1, 2, 4], [2, 3, 4]]
  | false, true, false, true => [[0, 1, 5], [1, 2, 5], [2, 3, 5], [3, 4, 5]]
  | false, true, true, false => [[0, 1, 5], [1, 2, 5], [2, 3, 4], [2, 4, 5]]
  | false, true, true, true => [[0, 1, 6], [1, 2, 6], [2, 3, 6], [3, 4, 6], [4, 5, 6]]
  | true, false, false, false => [[0, 1, 4], [1, 2, 4], [2, 3, 4]]
  | true, false, false, true => [[0, 1, 5], [1, 2, 5], [2, 3, 5], [3, 4, 5]]
  | true, false, true, false => [[0, 1, 5], [1, 2, 5], [2, 3, 4], [2, 4, 5]]
  | true, false, true, true => [[0, 1, 6], [1, 2, 6], [2, 3, 6], [3, 4, 6], [4, 5, 6]]
  | true, true, false, false => [[0, 1, 5], [1, 2, 5], [2, 3, 5], [3, 4, 5]]
  | true, true, false, true => [[0, 1, 6], [1, 2, 6], [2, 3, 6], [3, 4, 6], [4, 5, 6]]
  | true, true, true, false => [[0, 1, 6], [1, 2, 6], [2, 3, 6], [3, 4, 5], [3, 5, 6]]
  | true, true, true, true => [[0, 1, 7], [1, 2, 7], [2, 3, 7], [3, 4, 7], [4, 5, 7], [5, 6, 7]]
theorem trisE_f : ∀ p q r s : Bool, trisS p q r s = trisE p q r s := by decide +kernel
def rowOk (S : List Nat) (t : List Int) : Bool := itOkB (S.length : Int) t && decide (sgS (at_ S (rd t 0).toNat) (at_ S (rd t 1).toNat) (at_ S (rd t 2).toNat) = 1)
theorem rows_ok : ∀ p q r s : Bool, (trisE p q r s).all (rowOk (slots p q r s)) = true := by decide +kernel
theorem pairs_ok : ∀ p q r s : Bool, pairsB ((trisE p q r s).flatMap itKeys) (slots p q r s).length 0 (slots p q r s).length = true := by decide +kernel
theorem tris_len : ∀ p q r s : Bool, (trisE p q r s).length + 2 = (slots p q r s).length := by decide +kernel
def wP (p q : S25) : Int := p.f0 * q.f1 - p.f1 * q.f0
theorem wP_neg (p q : S25) : wP q p = - wP p q := by
  unfold wP
  have h1 := Int.mul_comm p.f0 q.f1
  have h2 := Int.mul_comm p.f1 q.f0
  omega
theorem crI_w (p q r : S25) : crI p q r = wP p q + wP q r + wP r p := by
  unfold crI wP
  simp only [Int.sub_mul, Int.mul_sub]
  have h1 := Int.mul_comm p.f0 r.f1
  have h2 := Int.mul_comm p.f1 r.f0
  have h3 := Int.mul_comm p.f0 p.f1
  have h4 := Int.mul_comm q.f0 p.f1
  have h5 := Int.mul_comm q.f1 p.f0
  omega
theorem wP_40 {p q : S25} (hp : In40 p) (hq : In40 q) : -1600 ≤ wP p q ∧ wP p q ≤ 1600 ∧ (0 ≤ p.f0 * q.f1 ∧ p.f0 * q.f1 ≤ 1600) ∧ (0 ≤ p.f1 * q.f0 ∧ p.f1 * q.f0 ≤ 1600) := by
  obtain ⟨⟨p1, p2⟩, p3, p4⟩ := hp
  obtain ⟨⟨q1, q2⟩, q3, q4⟩ := hq
  have h1 := mul_small (x := p.f0) (y := q.f1) (by omega) (by omega) (by omega) (by omega)
  have h2 := mul_small (x := p.f1) (y := q.f0) (by omega) (by omega) (by omega) (by omega)
  have h3 := Int.mul_nonneg p1 q3
  have h4 := Int.mul_nonneg p3 q1
  unfold wP
  omega
def triSum (w : Nat → Nat → Int) (S : List Nat) : List (List Int) → Int
  | [] => 0
  | t :: ts => (w (at_ S (rd t 0).toNat) (at_ S (rd t 1).toNat) + w (at_ S (rd t 1).toNat) (at_ S (rd t 2).toNat) + w (at_ S (rd t 2).toNat) (at_ S (rd t 0).toNat)) + triSum w S ts
def sideSum (w : Nat → Nat → Int) (S : List Nat) : Nat → Nat → Int
  | 0, _ => 0
  | m + 1, i => w (at_ S i) (at_ S (nx S.length i)) + sideSum w S m (i + 1)
section
variable {d a b c e : Int} (H : Sq d a b c e)
include H
theorem row_gp {S : List Nat} (hS : ∀ x ∈ S, x < 8) {t : List Int} (h : rowOk S t = true) : triOk (S.map (gp d a b c e)) t = true ∧ szT (S.map (gp d a b c e)) t = crI (gp d a b c e (at_ S (rd t 0).toNat)) (gp d a b c e (at_ S (rd t 1).toNat)) (gp d a b c e (at_ S (rd t 2).toNat)) ∧ 0 ≤ szT (S.map (gp d a b c e)) t ∧ szT (S.map (gp d a b c e)) t ≤ 4800 := by
  unfold rowOk at h
  rw [Bool.and_eq_true] at h
  obtain ⟨h1, h2⟩ := h
  have h2 := of_decide_eq_true h2
  obtain ⟨o0, o1, o2, o3, o4⟩ := okB_of h1
  have c1 : crT (S.map (gp d a b c e)) t = crI (gp d a b c e (at_ S (rd t 0).toNat)) (gp d a b c e (at_ S (rd t 1).toNat)) (gp d a b c e (at_ S (rd t 2).toNat)) := by
    unfold crT
    have r0 : rd t 0 = (((rd t 0).toNat : Nat) : Int) := by omega
    have r1 : rd t 1 = (((rd t 1).toNat : Nat) : Int) := by omega
    have r2 : rd t 2 = (((rd t 2).toNat : Nat) : Int) := by omega
    rw [r0, r1, r2, rd_map _ S (by omega), rd_map _ S (by omega), rd_map _ S (by omega), Int.toNat_natCast, Int.toNat_natCast, Int.toNat_natCast]
    exact gp_crI H _ _ _
  have s1 := stm_all H (at_lt hS (rd t 0).toNat) (at_lt hS (rd t 1).toNat) (at_lt hS (rd t 2).toNat)
  unfold stm at s1
  have pos := sgn_pos (x := crI (gp d a b c e (at_ S (rd t 0).toNat)) (gp d a b c e (at_ S (rd t 1).toNat)) (gp d a b c e (at_ S (rd t 2).toNat))) (by rw [s1, h2]; decide)
  have w1 := wP_40 (gp_40 H (at_ S (rd t 0).toNat)) (gp_40 H (at_ S (rd t 1).toNat))
  have w2 := wP_40 (gp_40 H (at_ S (rd t 1).toNat)) (gp_40 H (at_ S (rd t 2).toNat))
  have w3 := wP_40 (gp_40 H (at_ S (rd t 2).toNat)) (gp_40 H (at_ S (rd t 0).toNat))
  have cw := crI_w (gp d a b c e (at_ S (rd t 0).toNat)) (gp d a b c e (at_ S (rd t 1).toNat)) (gp d a b c e (at_ S (rd t 2).toNat))
  have hz : szT (S.map (gp d a b c e)) t = crI (gp d a b c e (at_ S (rd t 0).toNat)) (gp d a b c e (at_ S (rd t 1).toNat)) (gp d a b c e (at_ S (rd t 2).toNat)) := by
    unfold szT
    rw [c1]
    generalize crI (gp d a b c e (at_ S (rd t 0).toNat)) (gp d a b c e (at_ S (rd t 1).toNat)) (gp d a b c e (at_ S (rd t 2).toNat)) = x at *
    rw [w64 (by omega) (by omega)]
    unfold mx
    rw [if_neg (by omega)]
  refine ⟨?_, hz, ?_, ?_⟩
  · unfold triOk
    rw [List.length_map, h1, c1, decide_eq_false (by omega)]
    rfl
  · rw [hz]; omega
  · rw [hz]; omega
theorem triR_gp {S : List Nat} (hS : ∀ x ∈ S, x < 8) : ∀ (T : List (List Int)) (x : Int) (ks : List (Int × Int)), T.all (rowOk S) = true → 0 ≤ x → x + 4800 * (T.length : Int) ≤ 1000000 → triR (S.map (gp d a b c e)) T x ks = some (x + triSum (fun u v => wP (gp d a b c e u) (gp d a b c e v)) S T, ks ++ T.flatMap itKeys)
  | [], x, ks, _, _, _ => by rw [triR, triSum, Int.add_zero, List.flatMap_nil, List.append_nil]
  | t :: ts, x, ks, h, h0, h1 => by
    rw [List.all_cons, Bool.and_eq_true] at h
    obtain ⟨r1, r2, r3, r4⟩ := row_gp H hS h.1
    rw [List.length_cons] at h1
    rw [triR, if_pos r1, w64 (by omega) (by omega), triR_gp hS ts _ _ h.2 (by omega) (by omega), triSum, r2, crI_w, List.flatMap_cons, List.append_assoc]
    congr 2
    omega
theorem twF_gp {S : List Nat} (hS : ∀ x ∈ S, x < 8) (hn : 3 ≤ S.length ∧ S.length ≤ 10) : ∀ m i x, i + m = S.length → -2000 * (i : Int) ≤ x → x ≤ 2000 * (i : Int) → twF (S.map (gp d a b c e)) m i x = x + sideSum (fun u v => wP (gp d a b c e u) (gp d a b c e v)) S m i
  | 0, i, x, _, _, _ => by rw [twF, sideSum, Int.add_zero]
  | m + 1, i, x, hi, h0, h1 => by
    have hlt : i < S.length := by omega
    have hnx : nx S.length i < S.length := nx_lt (by omega)
    obtain ⟨w1, w2, w3, w4⟩ := wP_40 (gp_40 H (at_ S i)) (gp_40 H (at_ S (nx S.length i)))
    rw [twF, sideSum]
    unfold pt
    rw [List.length_map, rd_map _ S hlt, rd_map _ S hnx, w64 (x := (gp d a b c e (at_ S i)).f0 * (gp d a b c e (at_ S (nx S.length i))).f1) (by omega) (by omega), w64 (x := (gp d a b c e (at_ S i)).f1 * (gp d a b c e (at_ S (nx S.length i))).f0) (by omega) (by omega)]
    show twF _ m (i + 1) (wrap64 (x + wrap64 (wP _ _))) = _
    rw [w64 (x := wP _ _) (by omega) (by omega), w64 (by omega) (by omega), twF_gp hS hn m (i + 1) _ (by omega) (by omega) (by omega)]
    omega
end
theorem area_w (w : Nat → Nat → Int) (ha : ∀ u v, w v u = - w u v) : ∀ p q r s : Bool, triSum w (slots p q r s) (trisE p q r s) = sideSum w (slots p q r s) (slots p q r s).length 0 := by
  have h1 := ha 0 1; have h2 := ha 0 2; have h3 := ha 0 3; have h4 := ha 0 4; have h5 := ha 0 5; have h6 := ha 0 6; have h7 := ha 0 7
  have g2 := ha 1 2; have g3 := ha 1 3; have g4 := ha 1 4; have g5 := ha 1 5; have g6 := ha 1 6; have g7 := ha 1 7
  have f3 := ha 2 3; have f4 := ha 2 4; have f5 := ha 2 5; have f6 := ha 2 6; have f7 := ha 2 7
  have e4 := ha 3 4; have e5 := ha 3 5; have e6 := ha 3 6; have e7 := ha 3 7
  have d5 := ha 4 5; have d6 := ha 4 6; have d7 := ha 4 7; have c6 := ha 5 6; have c7 := ha 5 7; have b7 := ha 6 7
  intro p q r s
  cases p <;> cases q <;> cases r <;> cases s <;> (simp [triSum, sideSum, slots, trisE, at_, rd, nx]; omega)
section
variable {d a b c e : Int} (H : Sq d a b c e)
include H
omit H in
theorem slots_lt (p q r s : Bool) : ∀ x ∈ slots p q r s, x < 8 := fun x hx => of_decide_eq_true (List.all_eq_true.mp (slots_8 p q r s) x hx)
theorem triSum_nn {S : List Nat} (hS : ∀ x ∈ S, x < 8) : ∀ (T : List (List Int)), T.all (rowOk S) = true → 0 ≤ triSum (fun u v => wP (gp d a b c e u) (gp d a b c e v)) S T ∧ triSum (fun u v => wP (gp d a b c e u) (gp d a b c e v)) S T ≤ 4800 * (T.length : Int)
  | [], _ => by rw [triSum]; exact ⟨Int.le_refl 0, by simp⟩
  | t :: ts, h => by
    rw [List.all_cons, Bool.and_eq_true] at h
    obtain ⟨r1, r2, r3, r4⟩ := row_gp H hS h.1
    have ih := triSum_nn hS ts h.2
    rw [r2, crI_w] at r3 r4
    rw [triSum, List.length_cons]
    omega
theorem tri_is (p q r s : Bool) : triB ((slots p q r s).map (gp d a b c e)) (trisE p q r s) = true := by
  have hS := slots_lt p q r s
  have hr := rows_ok p q r s
  have hp := pairs_ok p q r s
  have hl := tris_len p q r s
  have hpo := slots_poly p q r s
  have aw := area_w (fun u v => wP (gp d a b c e u) (gp d a b c e v)) (fun u v => wP_neg _ _) p q r s
  generalize trisE p q r s = T at *
  generalize slots p q r s = S at *
  have h3 : 3 ≤ S.length ∧ S.length ≤ 10 := by
    unfold polyS at hpo
    rw [Bool.and_eq_true] at hpo
    exact of_decide_eq_true hpo.1
  have nn := triSum_nn H hS T hr
  unfold triB
  rw [poly_gp H hS hpo, List.length_map, decide_eq_true hl, Bool.true_and, Bool.true_and, triR_gp H hS T 0 [] hr (by omega) (by omega), List.nil_append]
  unfold triF
  dsimp only
  rw [List.length_map, hp, Bool.true_and]
  refine decide_eq_true ?_
  unfold twV
  rw [List.length_map, twF_gp H hS h3 _ _ _ (by omega) (by omega) (by omega), ← aw]
  generalize triSum (fun u v => wP (gp d a b c e u) (gp d a b c e v)) S T = x at *
  unfold mag
  rw [w64 (by omega) (by omega)]
  unfold mx
  rw [if_neg (by omega)]
theorem tri_of (p q r s : Bool) : Ev (fun k => impl_Triangulate.f k ((slots p q r s).map (gp d a b c e))) (trisE p q r s, true) :=
  tri_gp H (slots_lt p q r s) (slots_poly p q r s) (by rw [slots_tri, trisE_f])
end

def cC (x y z w : Bool) : Nat → Int
  | 0 => 0
  | 1 => if x = true then 1 else 0
  | 2 => 1
  | 3 => if y = true then 2 else 1
  | 4 => 1
  | 5 => if z = true then 2 else 1
  | 6 => 2
  | _ => if w = true then 2 else 0
theorem col_corner : ∀ d : Nat, d < 10 → 1 ≤ d → colN d 0 0 = 0 ∧ colN d d 0 = 1 ∧ colN d d d = 1 ∧ colN d 0 d = 2 := by decide +kernel
theorem col_1 : ∀ d : Nat, d < 10 → ∀ t : Nat, t < 10 → 1 ≤ t → t < d → colN d t 0 = 0 ∨ colN d t 0 = 1 := by decide +kernel
theorem col_3 : ∀ d : Nat, d < 10 → ∀ t : Nat, t < 10 → 1 ≤ t → t < d → colN d d t = 1 ∨ colN d d t = 2 := by decide +kernel
theorem col_5 : ∀ d : Nat, d < 10 → ∀ t : Nat, t < 10 → 1 ≤ t → t < d → colN d t d = 1 ∨ colN d t d = 2 := by decide +kernel
theorem col_7 : ∀ d : Nat, d < 10 → ∀ t : Nat, t < 10 → 1 ≤ t → t < d → colN d 0 t = 0 ∨ colN d 0 t = 2 := by decide +kernel
theorem col_gp {d a b c e : Int} (H : Sq d a b c e) : ∃ x y z w : Bool, ∀ u < 8, colV d (gp d a b c e u) = cC x y z w u := by
  have h1 := H.hd; have h2 := H.ha; have h3 := H.hb; have h4 := H.hc; have h5 := H.he
  obtain ⟨c0, c2, c4, c6⟩ := col_corner d.toNat (by omega) (by omega)
  have e1 := col_1 d.toNat (by omega) a.toNat (by omega) (by omega) (by omega)
  have e3 := col_3 d.toNat (by omega) b.toNat (by omega) (by omega) (by omega)
  have e5 := col_5 d.toNat (by omega) c.toNat (by omega) (by omega) (by omega)
  have e7 := col_7 d.toNat (by omega) e.toNat (by omega) (by omega) (by omega)
  refine ⟨decide (colN d.toNat a.toNat 0 = 1), decide (colN d.toNat d.toNat b.toNat = 2), decide (colN d.toNat c.toNat d.toNat = 2), decide (colN d.toNat 0 e.toNat = 2), fun u hu => ?_⟩
  rcases lt8 hu with rfl | rfl | rfl | rfl | rfl | rfl | rfl | rfl
  · exact c0
  · show colN d.toNat a.toNat 0 = if decide (colN d.toNat a.toNat 0 = 1) = true then 1 else 0
    rcases e1 with h | h <;> (rw [h]; rfl)
  · exact c2
  · show colN d.toNat d.toNat b.toNat = if decide (colN d.toNat d.toNat b.toNat = 2) = true then 2 else 1
    rcases e3 with h | h <;> (rw [h]; rfl)
  · exact c4
  · show colN d.toNat c.toNat d.toNat = if decide (colN d.toNat c.toNat d.toNat = 2) = true then 2 else 1
    rcases e5 with h | h <;> (rw [h]; rfl)
  · exact c6
  · show colN d.toNat 0 e.toNat = if decide (colN d.toNat 0 e.toNat = 2) = true then 2 else 0
    rcases e7 with h | h <;> (rw [h]; rfl)
def sideC (f : Nat → Int) (S : List Nat) (i : Nat) : Bool := decide (f (at_ S i) = 0 ∧ f (at_ S (nx S.length i)) = 1) || decide (f (at_ S i) = 1 ∧ f (at_ S (nx S.length i)) = 0)
def sidesC (f : Nat → Int) (S : List Nat) : Nat → Nat → Int → Int
  | 0, _, c => c
  | m + 1, i, c => sidesC f S m (i + 1) (if sideC f S i = true then c + 1 else c)
theorem sides_one : ∀ p q r s x y z w : Bool, sidesC (cC x y z w) (slots p q r s) (slots p q r s).length 0 0 = 1 := by decide +kernel
def rainsC (f : Nat → Int) (S : List Nat) : List (List Int) → Int → Int
  | [], c => c
  | t :: ts, c => rainsC f S ts (if rainB (f (at_ S (rd t 0).toNat)) (f (at_ S (rd t 1).toNat)) (f (at_ S (rd t 2).toNat)) = true then c + 1 else c)
theorem rains_odd : ∀ p q r s x y z w : Bool, 1 ≤ rainsC (cC x y z w) (slots p q r s) (trisE p q r s) 0 ∧ Int.tmod (rainsC (cC x y z w) (slots p q r s) (trisE p q r s) 0) 2 = 1 := by decide +kernel
theorem cC_nn : ∀ x y z w : Bool, ∀ u < 8, 0 ≤ cC x y z w u := by decide +kernel
section
variable {d a b c e : Int} (H : Sq d a b c e)
include H
omit H in
theorem sides_gp {f : Nat → Int} (hf : ∀ u < 8, colV d (gp d a b c e u) = f u) {S : List Nat} (hS : ∀ x ∈ S, x < 8) : ∀ m i x, i + m = S.length → sidesN d (S.map (gp d a b c e)) m i x = sidesC f S m i x
  | 0, _, _, _ => rfl
  | m + 1, i, x, hi => by
    have hlt : i < S.length := by omega
    have hnx : nx S.length i < S.length := nx_lt (by omega)
    rw [sidesN, sidesC, sides_gp hf hS m (i + 1) _ (by omega)]
    unfold sideB sideC pt
    rw [List.length_map, rd_map _ S hlt, rd_map _ S hnx, hf _ (at_lt hS _), hf _ (at_lt hS _)]
omit H in
theorem cols_gp {f : Nat → Int} (hf : ∀ u < 8, colV d (gp d a b c e u) = f u) (hn : ∀ u < 8, 0 ≤ f u) {S : List Nat} (hS : ∀ x ∈ S, x < 8) : colsB d (S.map (gp d a b c e)) = true := by
  unfold colsB
  refine List.all_eq_true.mpr fun p hp => ?_
  obtain ⟨u, hu, rfl⟩ := List.mem_map.mp hp
  rw [hf u (hS u hu)]
  exact decide_eq_true (hn u (hS u hu))
omit H in
theorem rains_gp {f : Nat → Int} (hf : ∀ u < 8, colV d (gp d a b c e u) = f u) {S : List Nat} (hS : ∀ x ∈ S, x < 8) : ∀ (T : List (List Int)) (x : Int), T.all (rowOk S) = true → rainsN d (S.map (gp d a b c e)) T x = rainsC f S T x
  | [], _, _ => rfl
  | t :: ts, x, h => by
    rw [List.all_cons, Bool.and_eq_true] at h
    have h1 := h.1
    unfold rowOk at h1
    rw [Bool.and_eq_true] at h1
    obtain ⟨o0, o1, o2, o3, o4⟩ := okB_of h1.1
    have r0 : rd t 0 = (((rd t 0).toNat : Nat) : Int) := by omega
    have r1 : rd t 1 = (((rd t 1).toNat : Nat) : Int) := by omega
    have r2 : rd t 2 = (((rd t 2).toNat : Nat) : Int) := by omega
    have key : isRain d (rd_T25 (S.map (gp d a b c e)) (rd t 0)) (rd_T25 (S.map (gp d a b c e)) (rd t 1)) (rd_T25 (S.map (gp d a b c e)) (rd t 2)) = rainB (f (at_ S (rd t 0).toNat)) (f (at_ S (rd t 1).toNat)) (f (at_ S (rd t 2).toNat)) := by
      unfold isRain
      rw [r0, r1, r2, rd_map _ S (by omega), rd_map _ S (by omega), rd_map _ S (by omega), hf _ (at_lt hS _), hf _ (at_lt hS _), hf _ (at_lt hS _), Int.toNat_natCast, Int.toNat_natCast, Int.toNat_natCast]
    rw [rainsN, rainsC, key]
    exact rains_gp hf hS ts _ h.2
theorem rain_is (p q r s : Bool) : rainV d ((slots p q r s).map (gp d a b c e)) = 1 := by
  obtain ⟨x, y, z, w, hf⟩ := col_gp H
  unfold rainV
  rw [poly_gp H (slots_lt p q r s) (slots_poly p q r s), cols_gp hf (cC_nn x y z w) (slots_lt p q r s), Bool.true_and, if_pos rfl, List.length_map, sides_gp hf (slots_lt p q r s) _ _ _ (by omega)]
  exact sides_one p q r s x y z w
theorem rains_is (p q r s : Bool) : 1 ≤ rainsV d ((slots p q r s).map (gp d a b c e)) (trisE p q r s) ∧ Int.tmod (rainsV d ((slots p q r s).map (gp d a b c e)) (trisE p q r s)) 2 = 1 := by
  obtain ⟨x, y, z, w, hf⟩ := col_gp H
  unfold rainsV
  rw [tri_is H p q r s, cols_gp hf (cC_nn x y z w) (slots_lt p q r s), Bool.true_and, if_pos rfl, rains_gp hf (slots_lt p q r s) _ _ (rows_ok p q r s)]
  exact rains_odd p q r s x y z w
end

def exP (p : Bool) (d : Nat) : List Int := if p = true then (List.range' 1 (d - 1)).map fun (x : Nat) => (x : Int) else [1]
def arS (d a b c e : Int) (S : List Nat) (t : List Int) : Int := crI (gp d a b c e (at_ S (rd t 0).toNat)) (gp d a b c e (at_ S (rd t 1).toNat)) (gp d a b c e (at_ S (rd t 2).toNat))
def unev (p q r s : Bool) : Bool := (trisE p q r s).length % 2 == 0 || (List.range' 2 8).all fun d => (exP p d).all fun a => (exP q d).all fun b => (exP r d).all fun c => (exP s d).all fun e => !(trisE p q r s).all fun t => decide (arS (d : Int) a b c e (slots p q r s) t = arS (d : Int) a b c e (slots p q r s) (rd_L3 (trisE p q r s) 0))
theorem unev_all : ∀ p q r s : Bool, unev p q r s = true := by decide +kernel
theorem tris_first : ∀ p q r s : Bool, rowOk (slots p q r s) (rd_L3 (trisE p q r s) 0) = true := by decide +kernel
theorem exP_mem {p : Bool} {d x : Int} (h0 : 1 ≤ x ∧ x ≤ d - 1) (h : p = false → x = 1) : x ∈ exP p d.toNat := by
  unfold exP
  cases p with
  | true => exact List.mem_map.mpr ⟨x.toNat, List.mem_range'_1.mpr ⟨by omega, by omega⟩, by omega⟩
  | false => rw [h rfl]; exact List.mem_singleton.mpr rfl
theorem equal_not {d a b c e : Int} (H : Sq d a b c e) {p q r s : Bool} (ha : p = false → a = 1) (hb : q = false → b = 1) (hc : r = false → c = 1) (he : s = false → e = 1) (ho : (trisE p q r s).length % 2 = 1) :
    equalV d ((slots p q r s).map (gp d a b c e)) (trisE p q r s) = false := by
  have k := unev_all p q r s
  unfold unev at k
  have hd : d.toNat ∈ List.range' 2 8 := List.mem_range'_1.mpr (by have := H.hd; omega)
  have hd2 : ((d.toNat : Nat) : Int) = d := by have := H.hd; omega
  rw [ho] at k
  have k2 := List.all_eq_true.mp (List.all_eq_true.mp (List.all_eq_true.mp (List.all_eq_true.mp (List.all_eq_true.mp ((Bool.false_or _).symm.trans k) _ hd) _ (exP_mem H.ha ha)) _ (exP_mem H.hb hb)) _ (exP_mem H.hc hc)) _ (exP_mem H.he he)
  rw [hd2] at k2
  have hall : ((trisE p q r s).all fun t => szT ((slots p q r s).map (gp d a b c e)) t == szT ((slots p q r s).map (gp d a b c e)) (rd_L3 (trisE p q r s) 0)) = false := by
    rw [← Bool.not_eq_true', ← k2]
    congr 1
    rw [Bool.eq_iff_iff, List.all_eq_true, List.all_eq_true]
    have z := (row_gp H (slots_lt p q r s) (tris_first p q r s)).2.1
    refine forall_congr' fun t => forall_congr' fun ht => ?_
    have y := (row_gp H (slots_lt p q r s) (List.all_eq_true.mp (rows_ok p q r s) t ht)).2.1
    rw [z, y, beq_iff_eq, decide_eq_true_eq]
    rfl
  unfold equalV
  rw [hall, Bool.and_false, Bool.and_false]
/-! The square itself, and the squares of side one -/
theorem rect_small : ∀ n : Nat, n < 10 → 1 ≤ n → equalV (n : Int) (rectL (n : Int)) [[0, 1, 2], [0, 2, 3]] = true := by decide +kernel

theorem one_ear : trEar 1 (trNow (rectL 1) (trIota 4)) 4 0 = some 0 := by decide +kernel
theorem one_poly : polyB (rectL 1) = true := by decide +kernel
theorem tri_one : Ev (fun k => impl_Triangulate.f k (rectL 1)) ([[0, 1, 3], [1, 2, 3]], true) := by
  have c1 : trCut (trIota 4) 0 = [0, 1, 3] := by
    show trTri ((3 : Nat) : Int) ((0 : Nat) : Int) ((1 : Nat) : Int) = _
    rw [triN_f]; rfl
  have c2 : trTri (rd ((trIota 4).eraseIdx 0) 0) (rd ((trIota 4).eraseIdx 0) 1) (rd ((trIota 4).eraseIdx 0) 2) = [1, 2, 3] := by
    show trTri ((1 : Nat) : Int) ((2 : Nat) : Int) ((3 : Nat) : Int) = _
    rw [triN_f]; rfl
  have h : trLoop 1 (rectL 1) 4 (trIota 4) [] = some ([[0, 1, 3], [1, 2, 3]], true) := by
    rw [trLoop, if_pos (by decide), show (trIota 4).length = 4 from rfl, one_ear, Option.bind_some, if_neg (by decide), c1, trLoop, if_neg (by decide), c2]
    rfl
  unfold impl_Triangulate.f
  refine Ev.bind (impl_poly _ (by decide)) ?_
  rw [one_poly]
  simp only [if_true]
  exact Ev.of (fun k => trLoop_mono k _ _ _ _) h
theorem one_rain : rainV 1 (rectL 1) = 1 := by decide +kernel
theorem one_rains : rainsV 1 (rectL 1) [[0, 1, 3], [1, 2, 3]] = 1 := by decide +kernel

/-! Three colors: the cross is not zero, and halved at most twice as often as the side -/
def hvK (n : Nat) : Nat := if n = 0 then 100 else if n % 2 = 1 then 0 else if n % 4 = 2 then 1 else if n % 8 = 4 then 2 else if n % 16 = 8 then 3 else if n % 32 = 16 then 4 else if n % 64 = 32 then 5 else if n % 128 = 64 then 6 else 7
def pts (d : Nat) (c : Int) : List (Nat × Nat) := ((List.range (d + 1)).flatMap fun x => (List.range (d + 1)).map fun y => (x, y)).filter fun p => decide (colN d p.1 p.2 = c)
def crN (a b c : Nat × Nat) : Int := ((b.1 : Int) - (a.1 : Int)) * ((c.2 : Int) - (a.2 : Int)) - ((b.2 : Int) - (a.2 : Int)) * ((c.1 : Int) - (a.1 : Int))
def rainChk (d : Nat) : Bool := (pts d 0).all fun a => (pts d 1).all fun b => (pts d 2).all fun c => !((crN a b c).natAbs == 0) && Nat.ble (hvK (crN a b c).natAbs) (2 * hvK d)
theorem rain_1 : rainChk 1 = true := by decide +kernel
theorem rain_2 : rainChk 2 = true := by decide +kernel
theorem rain_3 : rainChk 3 = true := by decide +kernel
theorem rain_4 : rainChk 4 = true := by decide +kernel
theorem rain_5 : rainChk 5 = true := by decide +kernel
theorem rain_6 : rainChk 6 = true := by decide +kernel
theorem rain_7 : rainChk 7 = true := by decide +kernel
theorem rain_8 : rainChk 8 = true := by decide +kernel
theorem rain_9 : rainChk 9 = true := by decide +kernel
theorem halv_small : ∀ n : Nat, n < 170 → impl_HalvingsOf.f 10 (n : Int) = some (hvK n : Int) ∧ impl_HalvingsOf.f 10 (-(n : Int)) = some (hvK n : Int) := by decide +kernel
theorem halv_ev {x : Int} (h : -169 ≤ x ∧ x ≤ 169) : Ev (fun k => impl_HalvingsOf.f k x) ((hvK x.natAbs : Nat) : Int) := by
  obtain ⟨h1, h2⟩ := halv_small x.natAbs (by omega)
  rcases (show x = ((x.natAbs : Nat) : Int) ∨ x = -((x.natAbs : Nat) : Int) by omega) with e | e
  · rw [← e] at h1
    exact Ev.of (fun k => impl_HalvingsOf.mono _ k) h1
  · rw [← e] at h2
    exact Ev.of (fun k => impl_HalvingsOf.mono _ k) h2

def Pd (d : Int) (p : S25) : Prop := (0 ≤ p.f0 ∧ p.f0 ≤ d) ∧ (0 ≤ p.f1 ∧ p.f1 ≤ d)
theorem pts_mem {d : Int} {p : S25} (h : Pd d p) {c : Int} (hc : colV d p = c) : (p.f0.toNat, p.f1.toNat) ∈ pts d.toNat c := by
  obtain ⟨⟨h1, h2⟩, h3, h4⟩ := h
  unfold pts
  refine List.mem_filter.mpr ⟨List.mem_flatMap.mpr ⟨p.f0.toNat, List.mem_range.mpr (by omega), List.mem_map.mpr ⟨p.f1.toNat, List.mem_range.mpr (by omega), rfl⟩⟩, ?_⟩
  exact decide_eq_true hc
def rainOk (d : Int) (a b c : S25) : Prop := crI a b c ≠ 0 ∧ hvK (crI a b c).natAbs ≤ 2 * hvK d.toNat
theorem rain_all : ∀ d : Nat, d < 10 → 1 ≤ d → rainChk d = true := by
  intro d h1 h2
  rcases (show d = 1 ∨ d = 2 ∨ d = 3 ∨ d = 4 ∨ d = 5 ∨ d = 6 ∨ d = 7 ∨ d = 8 ∨ d = 9 by omega) with rfl | rfl | rfl | rfl | rfl | rfl | rfl | rfl | rfl
  · exact rain_1
  · exact rain_2
  · exact rain_3
  · exact rain_4
  · exact rain_5
  · exact rain_6
  · exact rain_7
  · exact rain_8
  · exact rain_9
theorem rain_base {d : Int} (hd : In64 d) {a b c : S25} (ha : Pd d a) (hb : Pd d b) (hc : Pd d c) (ca : colV d a = 0) (cb : colV d b = 1) (cc : colV d c = 2) : rainOk d a b c := by
  have k := rain_all d.toNat (by have := hd.2; omega) (by have := hd.1; omega)
  have k2 := List.all_eq_true.mp (List.all_eq_true.mp (List.all_eq_true.mp k _ (pts_mem ha ca)) _ (pts_mem hb cb)) _ (pts_mem hc cc)
  have e : crN (a.f0.toNat, a.f1.toNat) (b.f0.toNat, b.f1.toNat) (c.f0.toNat, c.f1.toNat) = crI a b c := by
    unfold crN crI
    dsimp only
    rw [Int.toNat_of_nonneg ha.1.1, Int.toNat_of_nonneg ha.2.1, Int.toNat_of_nonneg hb.1.1, Int.toNat_of_nonneg hb.2.1, Int.toNat_of_nonneg hc.1.1, Int.toNat_of_nonneg hc.2.1]
  rw [e, Bool.and_eq_true] at k2
  refine ⟨fun z => ?_, Nat.le_of_ble_eq_true k2.2⟩
  rw [z] at k2
  exact absurd k2.1 (by decide)
theorem rainOk_turn {d : Int} {a b c : S25} (h : rainOk d a b c) : rainOk d a c b := by
  unfold rainOk at *
  rw [cr_turn a b c, Int.natAbs_neg]
  exact ⟨by omega, h.2⟩
theorem rainOk_ring {d : Int} {a b c : S25} (h : rainOk d a b c) : rainOk d b c a := by
  unfold rainOk at *
  rw [cr_ring a b c]
  exact h
theorem rain_of {d : Int} (hd : In64 d) {a b c : S25} (ha : Pd d a) (hb : Pd d b) (hc : Pd d c) (h : isRain d a b c = true) : rainOk d a b c := by
  unfold isRain rainB at h
  obtain ⟨h1, h2, h3, h4, h5, h6⟩ := of_decide_eq_true h
  have p64 : ∀ {p : S25}, Pd d p → P64 p := fun hp => ⟨⟨hp.1.1, Int.le_trans hp.1.2 hd.2⟩, hp.2.1, Int.le_trans hp.2.2 hd.2⟩
  have i1 := (colV_in hd (p64 ha)).2
  have i2 := (colV_in hd (p64 hb)).2
  have i3 := (colV_in hd (p64 hc)).2
  rcases (show colV d a = 0 ∨ colV d a = 1 ∨ colV d a = 2 by omega) with e | e | e
  · rcases (show (colV d b = 1 ∧ colV d c = 2) ∨ (colV d b = 2 ∧ colV d c = 1) by omega) with ⟨f, g⟩ | ⟨f, g⟩
    · exact rain_base hd ha hb hc e f g
    · exact rainOk_turn (rain_base hd ha hc hb e g f)
  · rcases (show (colV d b = 0 ∧ colV d c = 2) ∨ (colV d b = 2 ∧ colV d c = 0) by omega) with ⟨f, g⟩ | ⟨f, g⟩
    · exact rainOk_ring (rainOk_ring (rainOk_turn (rain_base hd hb ha hc f e g)))
    · exact rainOk_ring (rain_base hd hc ha hb g e f)
  · rcases (show (colV d b = 0 ∧ colV d c = 1) ∨ (colV d b = 1 ∧ colV d c = 0) by omega) with ⟨f, g⟩ | ⟨f, g⟩
    · exact rainOk_ring (rainOk_ring (rain_base hd hb hc ha f g e))
    · exact rainOk_ring (rainOk_turn (rain_base hd hc hb ha g f e))

/-! The colors on a segment -/
def ponChk (d ax ay bx by_ : Nat) : Bool := match impl_PointsOn.f 40 (ax : Int) (ay : Int) (bx : Int) (by_ : Int) with
  | some P => decide (P.length ≤ 50) && (P.all (fun p => decide (0 ≤ p.f0 ∧ p.f0 ≤ (d : Int)) && decide (0 ≤ p.f1 ∧ p.f1 ≤ (d : Int))) && (P.any (fun p => decide (colV (d : Int) p = colN d ax ay)) && (P.any (fun p => decide (colV (d : Int) p = colN d bx by_)) && (P.all (fun p => !decide (colV (d : Int) p = 0)) || (P.all (fun p => !decide (colV (d : Int) p = 1)) || P.all (fun p => !decide (colV (d : Int) p = 2))))))) 
  | none => false
def ponRow (d ax : Nat) : Bool := (List.range (d + 1)).all fun ay => (List.range (d + 1)).all fun bx => (List.range (d + 1)).all fun by_ => ponChk d ax ay bx by_
def ponAll (d : Nat) : Bool := (List.range (d + 1)).all (ponRow d)
theorem pon_1 : ponAll 1 = true := by decide +kernel
theorem pon_2 : ponAll 2 = true := by decide +kernel
theorem pon_3 : ponAll 3 = true := by decide +kernel
theorem pon_4 : ponAll 4 = true := by decide +kernel
theorem pon_5 : ponAll 5 = true := by decide +kernel
theorem pon_6 : ponAll 6 = true := by decide +kernel
theorem pon_7 : ponAll 7 = true := by decide +kernel
theorem pon_8 : ponAll 8 = true := by decide +kernel
theorem pon_9_0 : ponRow 9 0 = true := by decide +kernel
theorem pon_9_1 : ponRow 9 1 = true := by decide +kernel
theorem pon_9_2 : ponRow 9 2 = true := by decide +kernel
theorem pon_9_3 : ponRow 9 3 = true := by decide +kernel
theorem pon_9_4 : ponRow 9 4 = true := by decide +kernel
theorem pon_9_5 : ponRow 9 5 = true := by decide +kernel
theorem pon_9_6 : ponRow 9 6 = true := by decide +kernel
theorem pon_9_7 : ponRow 9 7 = true := by decide +kernel
theorem pon_9_8 : ponRow 9 8 = true := by decide +kernel
theorem pon_9_9 : ponRow 9 9 = true := by decide +kernel
theorem pon_9 : ponAll 9 = true := by
  unfold ponAll
  refine List.all_eq_true.mpr fun ax h => ?_
  have h := List.mem_range.mp h
  rcases (show ax = 0 ∨ ax = 1 ∨ ax = 2 ∨ ax = 3 ∨ ax = 4 ∨ ax = 5 ∨ ax = 6 ∨ ax = 7 ∨ ax = 8 ∨ ax = 9 by omega) with rfl | rfl | rfl | rfl | rfl | rfl | rfl | rfl | rfl | rfl
  · exact pon_9_0
  · exact pon_9_1
  · exact pon_9_2
  · exact pon_9_3
  · exact pon_9_4
  · exact pon_9_5
  · exact pon_9_6
  · exact pon_9_7
  · exact pon_9_8
  · exact pon_9_9

theorem compactUpTo_facts (d : Array Int) (hs : ∀ i j, i ≤ j → j < d.size → d[i]! ≤ d[j]!) (m : Nat) : m ≤ d.size → (∀ z, z ∈ Go.Lib.compactUpTo d m ↔ ∃ j, j < m ∧ d[j]! = z) ∧ (Go.Lib.compactUpTo d m).Pairwise (· < ·) := by
  induction m with
  | zero => intro _; simp [Go.Lib.compactUpTo]
  | succ m ih =>
    intro hm
    obtain ⟨h1, h2⟩ := ih (by omega)
    rw [Go.Lib.compactUpTo_succ]
    by_cases hk : Go.Lib.keeps d m = true
    · rw [if_pos hk]
      have hlt : ∀ z ∈ Go.Lib.compactUpTo d m, z < d[m]! := by
        intro z hz
        obtain ⟨j, hj, rfl⟩ := (h1 z).mp hz
        have hk' := hk
        simp only [Go.Lib.keeps, decide_eq_true_eq] at hk'
        have e1 := hs j (m - 1) (by omega) (by omega)
        have e2 := hs (m - 1) m (by omega) (by omega)
        rcases hk' with e | e
        · omega
        · have : d[m - 1]! ≠ d[m]! := fun e3 => e e3.symm
          omega
      constructor
      · intro z
        rw [List.mem_append, h1, List.mem_singleton]
        constructor
        · rintro (⟨j, hj, rfl⟩ | rfl)
          · exact ⟨j, by omega, rfl⟩
          · exact ⟨m, by omega, rfl⟩
        · rintro ⟨j, hj, rfl⟩
          by_cases e : j = m
          · subst e; exact .inr rfl
          · exact .inl ⟨j, by omega, rfl⟩
      · rw [List.pairwise_append]
        refine ⟨h2, by simp, fun a ha b hb => ?_⟩
        rw [List.mem_singleton] at hb
        subst hb
        exact hlt a ha
    · rw [if_neg hk, List.append_nil]
      refine ⟨fun z => ?_, h2⟩
      rw [h1]
      constructor
      · rintro ⟨j, hj, rfl⟩
        exact ⟨j, by omega, rfl⟩
      · rintro ⟨j, hj, rfl⟩
        by_cases e : j = m
        · subst e
          have hk' : ¬ (j = 0 ∨ d[j]! ≠ d[j - 1]!) := by simpa [Go.Lib.keeps] using hk
          have e1 : d[j]! = d[j - 1]! := Decidable.byContradiction fun e => hk' (.inr e)
          have e2 : j ≠ 0 := fun e => hk' (.inl e)
          exact ⟨j - 1, by omega, e1.symm⟩
        · exact ⟨j, by omega, rfl⟩
theorem sorted_compact (l : List Int) : (∀ z, z ∈ Go.Lib.compact (l.mergeSort fun x y => decide (x ≤ y)) ↔ z ∈ l) ∧ (Go.Lib.compact (l.mergeSort fun x y => decide (x ≤ y))).Pairwise (· < ·) := by
  have hp : (l.mergeSort fun x y => decide (x ≤ y)).Pairwise fun a b => decide (a ≤ b) = true := List.pairwise_mergeSort (fun a b c h1 h2 => by simp only [decide_eq_true_eq] at *; omega) (fun a b => by simp only [Bool.or_eq_true, decide_eq_true_eq]; omega) l
  have hm : ∀ z, z ∈ (l.mergeSort fun x y => decide (x ≤ y)) ↔ z ∈ l := fun z => List.mem_mergeSort
  generalize (l.mergeSort fun x y => decide (x ≤ y)) = s at hp hm ⊢
  have hs : ∀ i j, i ≤ j → j < s.toArray.size → s.toArray[i]! ≤ s.toArray[j]! := by
    intro i j hij hj
    have hj' : j < s.length := by simpa using hj
    rw [getElem!_pos s.toArray i (by simp; omega), getElem!_pos s.toArray j hj]
    by_cases e : i = j
    · subst e; exact Int.le_refl _
    · have := (List.pairwise_iff_getElem.mp hp) i j (by omega) hj' (by omega)
      simpa using this
  obtain ⟨h1, h2⟩ := compactUpTo_facts s.toArray hs s.length (by simp)
  refine ⟨fun z => ?_, h2⟩
  show z ∈ Go.Lib.compactUpTo s.toArray s.length ↔ _
  rw [h1, ← hm]
  constructor
  · rintro ⟨j, hj, rfl⟩
    rw [getElem!_pos s.toArray j (by simpa using hj)]
    simp
  · intro hz
    obtain ⟨j, hj, e⟩ := List.mem_iff_getElem.mp hz
    refine ⟨j, hj, ?_⟩
    rw [getElem!_pos s.toArray j (by simpa using hj)]
    simpa using e

theorem pon_all : ∀ d : Nat, d < 10 → 1 ≤ d → ponAll d = true := by
  intro d h1 h2
  rcases (show d = 1 ∨ d = 2 ∨ d = 3 ∨ d = 4 ∨ d = 5 ∨ d = 6 ∨ d = 7 ∨ d = 8 ∨ d = 9 by omega) with rfl | rfl | rfl | rfl | rfl | rfl | rfl | rfl | rfl
  · exact pon_1
  · exact pon_2
  · exact pon_3
  · exact pon_4
  · exact pon_5
  · exact pon_6
  · exact pon_7
  · exact pon_8
  · exact pon_9
theorem cols_ev {d : Int} (hd : In64 d) {P : List S25} (hl : P.length ≤ 50) (hp : ∀ p ∈ P, P64 p) (t : Nat) : ∀ (i : Nat) (out : List Int), P.length - i = t → i ≤ P.length → out.length ≤ i → Ev (fun k => impl_ColorsOn.l0 k d out P (P.length : Int) (i : Int)) (Go.Lib.compact ((out ++ (P.drop i).map (colV d)).mergeSort fun x y => decide (x ≤ y))) := by
  induction t with
  | zero =>
    intro i out ht hi ho
    rw [List.drop_of_length_le (by omega), List.map_nil, List.append_nil]
    have hol : (out.length < 4611686018427387904) = True := eq_true (by omega)
    refine Ev.step (f := fun _ => some (Go.Lib.compact (out.mergeSort fun x y => decide (x ≤ y)))) (fun k => ?_) (Ev.now _)
    simp only [impl_ColorsOn.l0, lt_f (show P.length ≤ i by omega), if_false, slices_Sort_int_int.f, slices_Compact_int_int.f, hol, if_true, Option.bind_some]
  | succ t ih =>
    intro i out ht hi ho
    have hlt : i < P.length := by omega
    have hi3 := w1 (show i ≤ 140737488355328 by omega)
    have hol : (out.length < 17592186044416) = True := eq_true (by omega)
    have H := ih (i + 1) (out ++ [colV d P[i]]) (by omega) (by omega) (by rw [List.length_append, List.length_singleton]; omega)
    rw [List.append_assoc, List.singleton_append] at H
    rw [List.drop_eq_getElem_cons hlt, List.map_cons]
    refine Ev.step (f := fun k => (impl_ColorOf.f k d (P[i]).f0 (P[i]).f1).bind fun t186 => impl_ColorsOn.l0 k d (out ++ [t186]) P (P.length : Int) ((i + 1 : Nat) : Int)) (fun k => ?_) (Ev.bind (col_impl hd (hp P[i] (List.getElem_mem hlt))) H)
    simp only [impl_ColorsOn.l0, lt_t hlt, nn_t, if_true, rdT_nat P i hlt, hi3, hol]
theorem colN_nn {d x y : Nat} (h : x ≤ d) (h2 : y ≤ d) : 0 ≤ colN d x y ∧ colN d x y ≤ 2 := by
  unfold colN
  rw [if_neg (by omega)]
  split
  · omega
  · split <;> omega
theorem colV_pd {d : Int} {p : S25} (h : Pd d p) : 0 ≤ colV d p ∧ colV d p ≤ 2 := colN_nn (by have := h.1; omega) (by have := h.2; omega)
theorem pd_64 {d : Int} (hd : In64 d) {p : S25} (h : Pd d p) : P64 p := ⟨⟨h.1.1, Int.le_trans h.1.2 hd.2⟩, h.2.1, Int.le_trans h.2.2 hd.2⟩
theorem three_of {l : List Int} (hp : l.Pairwise (· < ·)) (h : ∀ z ∈ l, 0 ≤ z ∧ z ≤ 2) (hl : 3 ≤ l.length) : (0 : Int) ∈ l ∧ (1 : Int) ∈ l ∧ (2 : Int) ∈ l := by
  match l, hl with
  | x :: y :: z :: t, _ =>
    simp only [List.pairwise_cons, List.mem_cons] at hp
    have a1 := hp.1 y (Or.inl rfl)
    have a2 := hp.2.1 z (Or.inl rfl)
    have b1 := h x (by simp)
    have b2 := h y (by simp)
    have b3 := h z (by simp)
    obtain rfl : x = 0 := by omega
    obtain rfl : y = 1 := by omega
    obtain rfl : z = 2 := by omega
    simp
theorem colors_on {d : Int} (hd : In64 d) {a b : S25} (ha : Pd d a) (hb : Pd d b) : ∃ L : List Int, Ev (fun k => impl_ColorsOn.f k d a.f0 a.f1 b.f0 b.f1) L ∧ (1 ≤ L.length ∧ L.length ≤ 2) ∧ colV d a ∈ L ∧ colV d b ∈ L := by
  have h1 := hd.1; have h2 := hd.2
  obtain ⟨⟨a1, a2⟩, a3, a4⟩ := ha
  obtain ⟨⟨b1, b2⟩, b3, b4⟩ := hb
  have k := pon_all d.toNat (by omega) (by omega)
  have k2 := List.all_eq_true.mp (List.all_eq_true.mp (List.all_eq_true.mp (List.all_eq_true.mp k a.f0.toNat (List.mem_range.mpr (by omega))) a.f1.toNat (List.mem_range.mpr (by omega))) b.f0.toNat (List.mem_range.mpr (by omega))) b.f1.toNat (List.mem_range.mpr (by omega))
  unfold ponChk at k2
  rw [Int.toNat_of_nonneg a1, Int.toNat_of_nonneg a3, Int.toNat_of_nonneg b1, Int.toNat_of_nonneg b3, Int.toNat_of_nonneg (show 0 ≤ d by omega)] at k2
  cases hP : impl_PointsOn.f 40 a.f0 a.f1 b.f0 b.f1 with
  | none => rw [hP] at k2; cases k2
  | some P =>
    rw [hP] at k2
    dsimp only at k2
    simp only [Bool.and_eq_true, decide_eq_true_eq, List.all_eq_true, List.any_eq_true] at k2
    obtain ⟨k3, k4, ⟨pa, ka, ea⟩, ⟨pb, kb, eb⟩, k5⟩ := k2
    have hpd : ∀ p ∈ P, Pd d p := k4
    have A := cols_ev hd k3 (fun p hp => pd_64 hd (hpd p hp)) P.length 0 [] rfl (by omega) (by simp)
    rw [List.nil_append, List.drop_zero] at A
    obtain ⟨s1, s2⟩ := sorted_compact (P.map (colV d))
    generalize Go.Lib.compact ((P.map (colV d)).mergeSort fun x y => decide (x ≤ y)) = L at A s1 s2
    have ma : colV d a ∈ L := (s1 _).mpr (List.mem_map.mpr ⟨pa, ka, ea⟩)
    have mb : colV d b ∈ L := (s1 _).mpr (List.mem_map.mpr ⟨pb, kb, eb⟩)
    refine ⟨L, ?_, ⟨List.length_pos_of_mem ma, ?_⟩, ma, mb⟩
    · have ca := colV_pd (p := a) ⟨⟨a1, a2⟩, a3, a4⟩
      have cb := colV_pd (p := b) ⟨⟨b1, b2⟩, b3, b4⟩
      unfold impl_ColorsOn.f
      refine Ev.bind (col_impl hd (pd_64 hd ⟨⟨a1, a2⟩, a3, a4⟩)) ?_
      simp only [if_neg (show ¬ colV d a < 0 by omega)]
      refine Ev.bind (col_impl hd (pd_64 hd ⟨⟨b1, b2⟩, b3, b4⟩)) ?_
      rw [decide_eq_false (show ¬ colV d b < 0 by omega)]
      refine Ev.step (f := fun k => (impl_PointsOn.f k a.f0 a.f1 b.f0 b.f1).bind fun t181 => impl_ColorsOn.l0 k d [] t181 (t181.length : Int) 0) (fun k => ?_) (Ev.bind (Ev.of (fun k => impl_PointsOn.mono _ _ _ _ k) hP) A)
      simp only [impl_ColorsOn.j0, Bool.false_eq_true, if_false]
    · refine Nat.le_of_not_lt fun hgt => ?_
      obtain ⟨m0, m1, m2⟩ := three_of s2 (fun z hz => by
        obtain ⟨p, hp, rfl⟩ := List.mem_map.mp ((s1 z).mp hz)
        exact colV_pd (hpd p hp)) hgt
      obtain ⟨p0, q0, r0⟩ := List.mem_map.mp ((s1 _).mp m0)
      obtain ⟨p1, q1, r1⟩ := List.mem_map.mp ((s1 _).mp m1)
      obtain ⟨p2, q2, r2⟩ := List.mem_map.mp ((s1 _).mp m2)
      simp only [Bool.or_eq_true, List.all_eq_true, Bool.not_eq_true', decide_eq_false_iff_not] at k5
      rcases k5 with h | h | h
      · exact h p0 q0 r0
      · exact h p1 q1 r1
      · exact h p2 q2 r2
theorem has_l {l : List Int} (hl : l.length ≤ 1000) (x : Int) (n : Nat) : ∀ i : Nat, l.length - i = n → i ≤ l.length → x ∈ l.drop i → Ev (fun k => laws_has.l0 k x l (l.length : Int) (i : Int)) true := by
  induction n with
  | zero => intro i hn hi h; rw [List.drop_eq_nil_of_le (by omega)] at h; cases h
  | succ n ih =>
    intro i hn hi h
    have hlt : i < l.length := by omega
    refine Ev.step (f := fun k => if l[i] = x then some true else laws_has.l0 k x l (l.length : Int) ((i + 1 : Nat) : Int)) (fun k => ?_) ?_
    · simp only [laws_has.l0, lt_t hlt, nn_t, if_true, rd_get l i hlt, w1 (show i ≤ 140737488355328 by omega)]
    · by_cases c : l[i] = x
      · simp only [if_pos c]; exact Ev.now _
      · simp only [if_neg c]
        rw [List.drop_eq_getElem_cons hlt, List.mem_cons] at h
        rcases h with h | h
        · exact absurd h.symm c
        · exact ih (i + 1) (by omega) (by omega) h
theorem has_f {l : List Int} (hl : l.length ≤ 1000) {x : Int} (h : x ∈ l) : Ev (fun k => laws_has.f k l x) true := has_l hl x l.length 0 (by omega) (by omega) h

theorem wrap_i64 (n : Int) : IntKind.i64.wrap n = wrap64 n := by
  simp only [IntKind.wrap, IntKind.bits, IntKind.signed, wrap64, Bool.true_and, decide_eq_true_eq, ge_iff_le]
  split <;> omega

set_option linter.unusedSectionVars false
theorem and255 (v : Int) : 0 ≤ Go.bits .and .i64 v 255 ∧ Go.bits .and .i64 v 255 ≤ 255 := by
  have h : (BitVec.ofInt 64 v &&& BitVec.ofInt 64 255).toNat ≤ 255 := by
    rw [BitVec.toNat_and]
    exact Nat.le_trans Nat.and_le_right (by decide)
  have e : Go.bits .and .i64 v 255 = (((BitVec.ofInt 64 v &&& BitVec.ofInt 64 255).toNat : Nat) : Int) := by
    show IntKind.i64.wrap ((BitVec.ofInt 64 v &&& BitVec.ofInt 64 255).toNat : Int) = _
    rw [wrap_i64, w64 (by omega) (by omega)]
  rw [e]
  omega
section
variable {b : List Int} (hb : b.length ≤ 1048576)
include hb
theorem byte_f (p h : Int) (hp : 0 ≤ p ∧ p ≤ (b.length : Int)) : ∃ x p' h', spec_l01Byte.f b p h = some (x, p', h') ∧ (0 ≤ x ∧ x ≤ 255) ∧ 0 ≤ p' ∧ p' ≤ (b.length : Int) := by
  unfold spec_l01Byte.f
  by_cases c : p < (b.length : Int)
  · rw [if_pos c, if_pos hp.1]
    refine ⟨_, _, _, rfl, and255 _, ?_⟩
    rw [w64 (by omega) (by omega)]
    omega
  · rw [if_neg c]
    exact ⟨_, _, _, rfl, and255 _, hp⟩
theorem below_f (p h n : Int) (hp : 0 ≤ p ∧ p ≤ (b.length : Int)) (hn : 1 ≤ n ∧ n ≤ 256) : ∃ x p' h', spec_l01Below.f b p h n = some (x, p', h') ∧ (0 ≤ x ∧ x < n) ∧ 0 ≤ p' ∧ p' ≤ (b.length : Int) := by
  obtain ⟨x, p', h', e, hx, hp'⟩ := byte_f hb p h hp
  refine ⟨Int.tmod x n, p', h', ?_, ⟨Int.tmod_nonneg _ hx.1, Int.tmod_lt_of_pos _ (by omega)⟩, hp'⟩
  unfold spec_l01Below.f
  rw [if_neg (by omega), if_pos hn.2, e]
  simp only [Option.bind_some]
  rw [if_neg (by omega)]
theorem new_l (d : Nat) : ∀ (i : Nat) (h : Int), b.length - i = d → i ≤ b.length → ∃ h', Ev (fun k => spec_l01New.l0 k b h (i : Int)) (b, 0, h') := by
  induction d with
  | zero =>
    intro i h hd hi
    refine ⟨h, Ev.step (f := fun _ => some (b, 0, h)) (fun k => ?_) (Ev.now _)⟩
    simp only [spec_l01New.l0, lt_f (show b.length ≤ i by omega), if_false]
  | succ d ih =>
    intro i h hd hi
    have hlt : i < b.length := by omega
    by_cases c : (i : Int) < 4000
    · obtain ⟨h', H⟩ := ih (i + 1) (Go.bits .and .i64 (wrap64 ((wrap64 ((wrap64 (h * 179)) + (wrap64 (rd b (i : Int))))) + 7)) 1073741823) (by omega) (by omega)
      refine ⟨h', Ev.step (fun k => ?_) H⟩
      simp only [spec_l01New.l0, lt_t hlt, nn_t, if_true, c, w1 (show i ≤ 140737488355328 by omega)]
    · refine ⟨h, Ev.step (f := fun _ => some (b, 0, h)) (fun k => ?_) (Ev.now _)⟩
      simp only [spec_l01New.l0, lt_t hlt, if_true, c, if_false]
theorem l31_l (n : Nat) (hn : n ≤ 100) (d : Nat) : ∀ (i : Nat) (p h : Int), n - i = d → i ≤ n → (0 ≤ p ∧ p ≤ (b.length : Int)) → ∃ p' h', Ev (fun k => spec_l31New.l0 k (n : Int) b p h (i : Int)) (b, p', h') ∧ 0 ≤ p' ∧ p' ≤ (b.length : Int) := by
  induction d with
  | zero =>
    intro i p h hd hi hp
    refine ⟨p, h, Ev.step (f := fun _ => some (b, p, h)) (fun k => ?_) (Ev.now _), hp⟩
    simp only [spec_l31New.l0, lt_f (show n ≤ i by omega), if_false]
  | succ d ih =>
    intro i p h hd hi hp
    have hlt : i < n := by omega
    obtain ⟨x, p1, h1, e, _, hp1⟩ := byte_f hb p h hp
    obtain ⟨p', h', H, hp'⟩ := ih (i + 1) p1 h1 (by omega) (by omega) hp1
    refine ⟨p', h', Ev.step (fun k => ?_) H, hp'⟩
    simp only [spec_l31New.l0, lt_t hlt, if_true, e, Option.bind_some, w1 (show i ≤ 140737488355328 by omega)]
theorem l31_f (n : Nat) (hn : n ≤ 100) : ∃ p' h', Ev (fun k => spec_l31New.f k b (n : Int)) (b, p', h') ∧ 0 ≤ p' ∧ p' ≤ (b.length : Int) := by
  obtain ⟨h0, H0⟩ := new_l hb b.length 0 (wrap64 (2173 + (b.length : Int))) rfl (Nat.zero_le _)
  obtain ⟨p', h', H, hp'⟩ := l31_l hb n hn n 0 0 h0 rfl (Nat.zero_le _) ⟨by omega, by omega⟩
  refine ⟨p', h', ?_, hp'⟩
  unfold spec_l31New.f spec_l01New.f
  exact Ev.bind H0 H
end

theorem size_l1 (t : Nat) : ∀ v : Int, 0 ≤ v → v + (t : Int) ≤ 10000 → Ev (fun k => spec_MakeSize.l1 k v (t : Int)) (v + (t : Int)) := by
  induction t with
  | zero =>
    intro v h0 h1
    refine Ev.step (f := fun _ => some v) (fun k => ?_) (by rw [show v + ((0 : Nat) : Int) = v by omega]; exact Ev.now _)
    simp [spec_MakeSize.l1]
  | succ t ih =>
    intro v h0 h1
    have H := ih (v + 1) (by omega) (by omega)
    rw [show v + ((t + 1 : Nat) : Int) = v + 1 + (t : Int) by omega]
    refine Ev.step (fun k => ?_) H
    rw [spec_MakeSize.l1, if_pos (by omega), w64 (x := v + 1) (by omega) (by omega), w64 (by omega) (by omega)]
    congr 1
    omega
theorem size_j1 {b : List Int} (hb : b.length ≤ 1048576) (n : Nat) (hn : n ≤ 100) {low w : Int} (h0 : 0 ≤ low) (h1 : low ≤ 100) (h2 : 1 ≤ w) (h3 : w ≤ 100) : ∃ v, Ev (fun k => spec_MakeSize.j1 k b (n : Int) low w) v ∧ low ≤ v ∧ v ≤ low + w - 1 := by
  obtain ⟨p, h, E, hp⟩ := l31_f hb n hn
  obtain ⟨x, p', h', e, hx, _⟩ := below_f hb p h w hp ⟨by omega, by omega⟩
  obtain ⟨t, rfl⟩ := Int.eq_ofNat_of_zero_le hx.1
  refine ⟨low + (t : Int), ?_, by omega, by omega⟩
  refine Ev.step (f := fun k => (spec_l31New.f k b (n : Int)).bind fun bt => (spec_l01Below.f bt.1 bt.2.1 bt.2.2 w).bind fun bt2 => spec_MakeSize.l1 k low bt2.1) (fun k => ?_) (Ev.bind E ?_)
  · rw [spec_MakeSize.j1]
  · rw [e]
    simp only [Option.bind_some]
    exact size_l1 t low h0 (by omega)
theorem size_l0 {b : List Int} (hb : b.length ≤ 1048576) (n : Nat) (hn : n ≤ 100) {low high : Int} (h0 : 0 ≤ low) (h1 : low ≤ high) (h2 : high ≤ 50) (m : Nat) : ∀ i : Int, high - i = (m : Int) → low ≤ i → ∃ v, Ev (fun k => spec_MakeSize.l0 k b (n : Int) low high (1 + (i - low)) i) v ∧ low ≤ v ∧ v ≤ high := by
  induction m with
  | zero =>
    intro i hi hl
    obtain ⟨v, V, v1, v2⟩ := size_j1 hb n hn h0 (by omega) (show 1 ≤ 1 + (i - low) by omega) (by omega)
    refine ⟨v, Ev.step (fun k => ?_) V, v1, by omega⟩
    rw [spec_MakeSize.l0, if_neg (by omega)]
  | succ m ih =>
    intro i hi hl
    obtain ⟨v, V, v1, v2⟩ := ih (i + 1) (by omega) (by omega)
    refine ⟨v, Ev.step (fun k => ?_) V, v1, v2⟩
    rw [spec_MakeSize.l0, if_pos (by omega), if_pos (by omega), w64 (x := 1 + (i - low) + 1) (by omega) (by omega), w64 (x := i + 1) (by omega) (by omega)]
    congr 1
    omega
theorem size_f {b : List Int} (hb : b.length ≤ 1048576) (n : Nat) (hn : n ≤ 100) {low high : Int} (h0 : 0 ≤ low) (h1 : low ≤ high) (h2 : high ≤ 50) : ∃ v, Ev (fun k => spec_MakeSize.f k b (n : Int) low high) v ∧ low ≤ v ∧ v ≤ high := by
  obtain ⟨v, V, hv⟩ := size_l0 hb n hn h0 h1 h2 (high - low).toNat low (by omega) (by omega)
  refine ⟨v, Ev.congr (fun k => ?_) V, hv⟩
  unfold spec_MakeSize.f
  rw [show (1 : Int) + (low - low) = 1 by omega]

theorem sq_step {b : List Int} (hb : b.length ≤ 1048576) {d : Int} (hd : 2 ≤ d ∧ d ≤ 9) (i : Nat) (y : List S25) (hy : y.length < 8) (p h : Int) (hp : 0 ≤ p ∧ p ≤ (b.length : Int)) :
    ∃ (o : Bool) (x p' h' : Int), sqStep d b i y p h = some (y ++ (if o = true then [sqExtra i d x] else []), p', h') ∧ (1 ≤ x ∧ x ≤ d - 1) ∧ (o = false → x = 1) ∧ (0 ≤ p' ∧ p' ≤ (b.length : Int)) := by
  obtain ⟨z, p1, h1, e1, hz, hp1⟩ := below_f hb p h 2 hp ⟨by omega, by omega⟩
  unfold sqStep spec_l01Once.f
  rw [if_pos ⟨by omega, hy⟩, e1]
  simp only [Option.bind_some]
  by_cases c : z = 0
  · obtain ⟨t, p2, h2, e2, ht, hp2⟩ := below_f hb p1 h1 (d - 1) hp1 ⟨by omega, by omega⟩
    refine ⟨true, 1 + t, p2, h2, ?_, by omega, (fun e => nomatch e), hp2⟩
    rw [if_pos (by rw [c]; rfl), w64 (x := d - 1) (by omega) (by omega), e2]
    simp only [Option.bind_some, if_true]
    rw [w64 (x := 1 + t) (by omega) (by omega)]
  · refine ⟨false, 1, p1, h1, ?_, by omega, fun _ => rfl, hp1⟩
    rw [if_neg (by rw [beq_eq_false_iff_ne.mpr c]; exact Bool.false_ne_true), if_neg Bool.false_ne_true, List.append_nil]
theorem sq_big {b : List Int} (hb : b.length ≤ 1048576) {d : Int} (hd : 2 ≤ d ∧ d ≤ 9) (p h : Int) (hp : 0 ≤ p ∧ p ≤ (b.length : Int)) :
    ∃ (o0 o1 o2 o3 : Bool) (x0 x1 x2 x3 : Int), sqLoop d b (rectL d) 4 0 [] p h = some ((slots o0 o1 o2 o3).map (gp d x0 x1 x2 x3)) ∧ Sq d x0 x1 x2 x3 ∧ (o0 = false → x0 = 1) ∧ (o1 = false → x1 = 1) ∧ (o2 = false → x2 = 1) ∧ (o3 = false → x3 = 1) := by
  have le2 : ∀ (o : Bool) (s : S25), (if o = true then [s] else []).length ≤ 1 := fun o s => by cases o <;> simp
  obtain ⟨o0, x0, p0, h0, e0, r0, s0, q0⟩ := sq_step hb hd 0 ([] ++ [(⟨0, 0⟩ : S25)]) (by simp) p h hp
  have l0 : ([] ++ [(⟨0, 0⟩ : S25)] ++ (if o0 = true then [sqExtra 0 d x0] else [])).length ≤ 2 := by have := le2 o0 (sqExtra 0 d x0); simp only [List.length_append, List.length_cons, List.length_nil]; omega
  generalize hy0 : [] ++ [(⟨0, 0⟩ : S25)] ++ (if o0 = true then [sqExtra 0 d x0] else []) = y0 at e0 l0
  obtain ⟨o1, x1, p1, h1, e1, r1, s1, q1⟩ := sq_step hb hd 1 (y0 ++ [(⟨d, 0⟩ : S25)]) (by rw [List.length_append, List.length_singleton]; omega) p0 h0 q0
  have l1 : (y0 ++ [(⟨d, 0⟩ : S25)] ++ (if o1 = true then [sqExtra 1 d x1] else [])).length ≤ 4 := by have := le2 o1 (sqExtra 1 d x1); simp only [List.length_append, List.length_cons, List.length_nil]; omega
  generalize hy1 : y0 ++ [(⟨d, 0⟩ : S25)] ++ (if o1 = true then [sqExtra 1 d x1] else []) = y1 at e1 l1
  obtain ⟨o2, x2, p2, h2, e2, r2, s2, q2⟩ := sq_step hb hd 2 (y1 ++ [(⟨d, d⟩ : S25)]) (by rw [List.length_append, List.length_singleton]; omega) p1 h1 q1
  have l2 : (y1 ++ [(⟨d, d⟩ : S25)] ++ (if o2 = true then [sqExtra 2 d x2] else [])).length ≤ 6 := by have := le2 o2 (sqExtra 2 d x2); simp only [List.length_append, List.length_cons, List.length_nil]; omega
  generalize hy2 : y1 ++ [(⟨d, d⟩ : S25)] ++ (if o2 = true then [sqExtra 2 d x2] else []) = y2 at e2 l2
  obtain ⟨o3, x3, p3, h3, e3, r3, s3, q3⟩ := sq_step hb hd 3 (y2 ++ [(⟨0, d⟩ : S25)]) (by rw [List.length_append, List.length_singleton]; omega) p2 h2 q2
  refine ⟨o0, o1, o2, o3, x0, x1, x2, x3, ?_, ⟨hd, r0, r1, r2, r3⟩, s0, s1, s2, s3⟩
  have k0 : rd_T25 (rectL d) ((0 : Nat) : Int) = ⟨0, 0⟩ := rfl
  have k1 : rd_T25 (rectL d) ((1 : Nat) : Int) = ⟨d, 0⟩ := rfl
  have k2 : rd_T25 (rectL d) ((2 : Nat) : Int) = ⟨d, d⟩ := rfl
  have k3 : rd_T25 (rectL d) ((3 : Nat) : Int) = ⟨0, d⟩ := rfl
  rw [sqLoop, k0, e0, Option.bind_some]
  dsimp only
  rw [sqLoop, k1, e1, Option.bind_some]
  dsimp only
  rw [sqLoop, k2, e2, Option.bind_some]
  dsimp only
  rw [sqLoop, k3, e3, Option.bind_some]
  dsimp only
  rw [sqLoop, ← hy2, ← hy1, ← hy0]
  cases o0 <;> cases o1 <;> cases o2 <;> cases o3 <;> rfl
theorem sq_one (b : List Int) (p h : Int) : sqLoop 1 b (rectL 1) 4 0 [] p h = some (rectL 1) := rfl

theorem cross_ev {d : Int} (hd : In64 d) {a b c : S25} (ha : Pd d a) (hb : Pd d b) (hc : Pd d c) : Ev (fun k => impl_CrossOf.f k a.f0 a.f1 b.f0 b.f1 c.f0 c.f1) (crI a b c) ∧ (-169 ≤ crI a b c ∧ crI a b c ≤ 169) := by
  have h2 := hd.2
  have ok : ∀ {p : S25}, Pd d p → ptOk p = true := fun {p} hp => by
    obtain ⟨⟨h3, h4⟩, h5, h6⟩ := hp
    unfold ptOk
    rw [decide_eq_true ⟨h3, by omega⟩, decide_eq_true ⟨h5, by omega⟩]
    rfl
  have i40 : ∀ {p : S25}, Pd d p → In40 p := fun hp => ptOk_in (ok hp)
  refine ⟨?_, ?_⟩
  · have A := arePoints_f [a, b, c] (by simp) 3 0 rfl (by simp)
    rw [List.drop_zero, show ([a, b, c].all ptOk) = true by simp [ok ha, ok hb, ok hc]] at A
    unfold impl_CrossOf.f
    refine Ev.bind (f := fun k t => if t = true then (impl_cross.f a.f0 a.f1 b.f0 b.f1 c.f0 c.f1).bind fun t202 => some t202 else some 0) A ?_
    simp only [if_true]
    rw [cross_f, Option.bind_some, crw_I (i40 ha) (i40 hb) (i40 hc)]
    exact Ev.now _
  · obtain ⟨⟨a1, a2⟩, a3, a4⟩ := ha
    obtain ⟨⟨b1, b2⟩, b3, b4⟩ := hb
    obtain ⟨⟨c1, c2⟩, c3, c4⟩ := hc
    have m9 : ∀ {x y : Int}, -9 ≤ x → x ≤ 9 → -9 ≤ y → y ≤ 9 → -81 ≤ x * y ∧ x * y ≤ 81 := fun {x y} h0 h1 h2 h3 => by
      have a1 : x.natAbs * y.natAbs ≤ 9 * 9 := Nat.mul_le_mul (by omega) (by omega)
      have a2 : (x * y).natAbs = x.natAbs * y.natAbs := Int.natAbs_mul x y
      omega
    have h3 := m9 (x := b.f0 - a.f0) (y := c.f1 - a.f1) (by omega) (by omega) (by omega) (by omega)
    have h4 := m9 (x := b.f1 - a.f1) (y := c.f0 - a.f0) (by omega) (by omega) (by omega) (by omega)
    unfold crI
    omega

theorem j3_ev {d : Int} (hd : In64 d) : Ev (fun k => laws_FnColors.j3 k d false) true := by
  have h1 := hd.1; have h2 := hd.2
  refine Ev.step (f := fun k => (impl_RectangleOf.f d d).bind fun t292 => ((impl_EqualCut.f k d t292 (([(([0, 1, 2] : List Int)), (([0, 2, 3] : List Int))] : List (List Int)))).bind fun t304 => (if t304 = true then ((impl_HalvingsOf.f k 12).bind fun t305 => (if t305 = 2 then ((impl_HalvingsOf.f k 0).bind fun t306 => (if t306 = 100 then ((impl_HalvingsOf.f k (-8)).bind fun t307 => (some (t307 == 3))) else (some false))) else (some false))) else (some false)))) (fun k => ?_) ?_
  · rw [laws_FnColors.j3, if_neg Bool.false_ne_true]
  · have R : impl_RectangleOf.f d d = some (rectL d) := by rw [impl_rect, if_pos ⟨h1, by omega⟩]
    have E := impl_equal d (rectL d) (by simp [rectL]) [[0, 1, 2], [0, 2, 3]] (by simp)
    have Q : equalV d (rectL d) [[0, 1, 2], [0, 2, 3]] = true := by
      have := rect_small d.toNat (by omega) (by omega)
      rw [Int.toNat_of_nonneg (by omega)] at this
      exact this
    rw [Q] at E
    have a1 := halv_ev (x := 12) (by omega)
    have a2 := halv_ev (x := 0) (by omega)
    have a3 := halv_ev (x := -8) (by omega)
    simp only [R, Option.bind_some]
    refine Ev.bind E ?_
    simp only [if_true]
    refine Ev.bind a1 ?_
    simp only [show ((hvK (12 : Int).natAbs : Nat) : Int) = 2 from rfl, if_true]
    refine Ev.bind a2 ?_
    simp only [show ((hvK (0 : Int).natAbs : Nat) : Int) = 100 from rfl, if_true]
    refine Ev.bind a3 ?_
    exact Ev.now _
theorem j2_ev {d : Int} (hd : In64 d) {L : List S25} (hl : L.length ≤ 1048576) (hp : ∀ p ∈ L, P64 p) {T : List (List Int)} (hT : T.length ≤ 1000) (h1 : 1 ≤ rainsV d L T) (h2 : Int.tmod (rainsV d L T) 2 = 1) (h3 : equalV d L T = true → T.length % 2 = 0) : Ev (fun k => laws_FnColors.j2 k d L T false) true := by
  refine Ev.step (f := fun k => (impl_CountRainbows.f k d L T).bind fun t290 => (if t290 < 1 then (laws_FnColors.j3 k d true) else (if (Int.tmod t290 2) = 1 then ((impl_EqualCut.f k d L T).bind fun t291 => (if t291 = true then (laws_FnColors.j3 k d (((T.length : Int) % 2) == 1)) else (laws_FnColors.j3 k d false))) else (laws_FnColors.j3 k d true)))) (fun k => ?_) ?_
  · rw [laws_FnColors.j2, if_neg Bool.false_ne_true]
  · refine Ev.bind (impl_rains d hd L hl hp T (by omega)) ?_
    simp only [if_neg (show ¬ rainsV d L T < 1 by omega), if_pos h2]
    refine Ev.bind (impl_equal d L hl T (by omega)) ?_
    cases e : equalV d L T with
    | false => simp only [Bool.false_eq_true, if_false]; exact j3_ev hd
    | true =>
      simp only [if_true]
      rw [show (((T.length : Int) % 2) == 1) = false from beq_eq_false_iff_ne.mpr (by have := h3 e; omega)]
      exact j3_ev hd
theorem j1_ev {l0 : List Int} {d : Int} (hd : In64 d) {L : List S25} (hl : L.length ≤ 1048576) (hp : ∀ p ∈ L, P64 p) {T : List (List Int)} (hT : T.length ≤ 1000) (h1 : 1 ≤ rainsV d L T) (h2 : Int.tmod (rainsV d L T) 2 = 1) (h3 : equalV d L T = true → T.length % 2 = 0)
    (hS : Ev (fun k => spec_MakeSquare.f k l0 20 d) L) (ht : Ev (fun k => impl_Triangulate.f k L) (T, true)) (hr : rainV d L = 1) : Ev (fun k => laws_FnColors.j1 k l0 d false) true := by
  refine Ev.step (f := fun k => (spec_MakeSquare.f k l0 20 d).bind fun t282 => ((impl_Triangulate.f k t282).bind fun bt285 => ((impl_RainbowSides.f k d t282).bind fun t289 => (if bt285.2 = true then (if t289 < 1 then (laws_FnColors.j2 k d t282 bt285.1 true) else (laws_FnColors.j2 k d t282 bt285.1 ((Int.tmod t289 2) != 1))) else (laws_FnColors.j2 k d t282 bt285.1 true))))) (fun k => ?_) ?_
  · rw [laws_FnColors.j1, if_neg Bool.false_ne_true]
  · refine Ev.bind hS ?_
    refine Ev.bind ht ?_
    have R := impl_rain d hd L hl hp
    rw [hr] at R
    refine Ev.bind R ?_
    exact j2_ev hd hl hp hT h1 h2 h3

theorem j0_ev {l0 : List Int} {d : Int} (hd : In64 d) {a b c : S25} (ha : Pd d a) (hb : Pd d b) (hc : Pd d c) (hj : Ev (fun k => laws_FnColors.j1 k l0 d false) true) : Ev (fun k => laws_FnColors.j0 k l0 d false a.f0 a.f1 b.f0 b.f1 c.f0 c.f1) true := by
  refine Ev.step (f := fun k => (impl_IsRainbow.f k d a.f0 a.f1 b.f0 b.f1 c.f0 c.f1).bind fun t277 => (if t277 = true then ((impl_CrossOf.f k a.f0 a.f1 b.f0 b.f1 c.f0 c.f1).bind fun t278 => (if t278 = 0 then (laws_FnColors.j1 k l0 d true) else ((impl_CrossOf.f k a.f0 a.f1 b.f0 b.f1 c.f0 c.f1).bind fun t279 => ((impl_HalvingsOf.f k t279).bind fun t280 => ((impl_HalvingsOf.f k d).bind fun t281 => (laws_FnColors.j1 k l0 d (decide (t280 > (wrap64 (2 * t281)))))))))) else (laws_FnColors.j1 k l0 d false))) (fun k => ?_) ?_
  · rw [laws_FnColors.j0, if_neg Bool.false_ne_true]
  · refine Ev.bind (impl_rainbow hd (pd_64 hd ha) (pd_64 hd hb) (pd_64 hd hc)) ?_
    cases e : isRain d a b c with
    | false => simp only [Bool.false_eq_true, if_false]; exact hj
    | true =>
      simp only [if_true]
      obtain ⟨C, c1⟩ := cross_ev hd ha hb hc
      obtain ⟨r1, r2⟩ := rain_of hd ha hb hc e
      refine Ev.bind C ?_
      simp only [if_neg r1]
      refine Ev.bind C ?_
      refine Ev.bind (halv_ev c1) ?_
      have hd2 := hd.2; have hd1 := hd.1
      refine Ev.bind (halv_ev (x := d) (by omega)) ?_
      have q : (hvK d.natAbs : Int) ≤ 100 := by
        have : hvK d.natAbs ≤ 100 := by unfold hvK; repeat' split
                                        all_goals omega
        omega
      have e2 : d.natAbs = d.toNat := by omega
      rw [decide_eq_false (by rw [w64 (by omega) (by omega), e2]; omega)]
      exact hj

theorem FnColors : laws_FnColors.Pure := by
  intro l0 hm _ hu
  refine Ev.rounds (r := true) ?_
  unfold laws_FnColors.f
  by_cases hbig : (l0.length : Int) > 1048576
  · simp only [if_pos hbig]; exact Ev.now _
  simp only [if_neg hbig]
  have hb : l0.length ≤ 1048576 := by omega
  obtain ⟨d, D, d1, d2⟩ := size_f hb 0 (by omega) (low := 1) (high := 9) (by omega) (by omega) (by omega)
  have hd : In64 d := ⟨d1, d2⟩
  obtain ⟨x0, X0, x01, x02⟩ := size_f hb 1 (by omega) (low := 0) (high := d) (by omega) (by omega) (by omega)
  obtain ⟨x1, X1, x11, x12⟩ := size_f hb 2 (by omega) (low := 0) (high := d) (by omega) (by omega) (by omega)
  obtain ⟨x2, X2, x21, x22⟩ := size_f hb 3 (by omega) (low := 0) (high := d) (by omega) (by omega) (by omega)
  obtain ⟨x3, X3, x31, x32⟩ := size_f hb 4 (by omega) (low := 0) (high := d) (by omega) (by omega) (by omega)
  obtain ⟨x4, X4, x41, x42⟩ := size_f hb 5 (by omega) (low := 0) (high := d) (by omega) (by omega) (by omega)
  obtain ⟨x5, X5, x51, x52⟩ := size_f hb 6 (by omega) (low := 0) (high := d) (by omega) (by omega) (by omega)
  have ha : Pd d ⟨x0, x1⟩ := ⟨⟨x01, x02⟩, x11, x12⟩
  have hbb : Pd d ⟨x2, x3⟩ := ⟨⟨x21, x22⟩, x31, x32⟩
  have hc : Pd d ⟨x4, x5⟩ := ⟨⟨x41, x42⟩, x51, x52⟩
  have hj1 : Ev (fun k => laws_FnColors.j1 k l0 d false) true := by
    obtain ⟨p, h, E, hp⟩ := l31_f hb 20 (by omega)
    have R : spec_RectangleOf.f d d = some (rectL d) := by
      have l01 : ∀ z : Int, 1 ≤ z → z ≤ 40 → spec_l01In.f z 1 40 = some true := fun z h1 h2 => by
        have : spec_l01In.f z 1 40 = impl_within.f z 1 40 := rfl
        rw [this, within_f, decide_eq_true ⟨h1, h2⟩]
      unfold spec_RectangleOf.f
      simp only [l01 d d1 (by omega), Option.bind_some, if_true]
      rfl
    have mk : ∀ L, sqLoop d l0 (rectL d) 4 0 [] p h = some L → Ev (fun k => spec_MakeSquare.f k l0 20 d) L := fun L hL => by
      unfold spec_MakeSquare.f
      simp only [if_pos (show 1 ≤ d ∧ d ≤ 40 from ⟨d1, by omega⟩)]
      refine Ev.bind E ?_
      simp only [R, Option.bind_some, if_pos (show (rectL d).length = 4 from rfl)]
      refine Ev.congr (fun k => ?_) (Ev.now _)
      exact hL
    by_cases c1 : d = 1
    · subst c1
      refine j1_ev hd (L := rectL 1) (by simp [rectL]) ?_ (T := [[0, 1, 3], [1, 2, 3]]) (by simp) (by rw [one_rains]; omega) (by rw [one_rains]; rfl) (fun _ => rfl) (mk _ (sq_one l0 p h)) tri_one one_rain
      intro q hq
      simp only [rectL, List.mem_cons, List.not_mem_nil, or_false] at hq
      rcases hq with rfl | rfl | rfl | rfl <;> exact ⟨⟨by decide, by decide⟩, by decide, by decide⟩
    · obtain ⟨o0, o1, o2, o3, y0, y1, y2, y3, hL, H, s0, s1, s2, s3⟩ := sq_big hb (d := d) ⟨by omega, d2⟩ p h hp
      have hlen := tris_len o0 o1 o2 o3
      have h10 : (slots o0 o1 o2 o3).length ≤ 8 := by cases o0 <;> cases o1 <;> cases o2 <;> cases o3 <;> decide
      have rs := rains_is H o0 o1 o2 o3
      refine j1_ev hd (L := (slots o0 o1 o2 o3).map (gp d y0 y1 y2 y3)) (by rw [List.length_map]; omega) ?_ (T := trisE o0 o1 o2 o3) (by omega) rs.1 rs.2 ?_ (mk _ hL) (tri_of H o0 o1 o2 o3) (rain_is H o0 o1 o2 o3)
      · intro q hq
        obtain ⟨u, hu', rfl⟩ := List.mem_map.mp hq
        have h1 := H.ha; have h2 := H.hb; have h3 := H.hc; have h4 := H.he
        unfold gp P64
        split <;> (refine ⟨⟨?_, ?_⟩, ?_, ?_⟩ <;> (dsimp only; omega))
      · intro he
        refine Classical.byContradiction fun ho => ?_
        have := equal_not H s0 s1 s2 s3 (by omega)
        rw [this] at he
        cases he
  have hj0 := j0_ev hd ha hbb hc hj1
  obtain ⟨L, E, ⟨L1, L2⟩, ma, mb⟩ := colors_on hd ha hbb
  have ca := col_impl hd (pd_64 hd ha)
  have cb := col_impl hd (pd_64 hd hbb)
  have cc := col_impl hd (pd_64 hd hc)
  have va := colV_pd ha
  have vb := colV_pd hbb
  have vc := colV_pd hc
  have rb := impl_rainbow hd (pd_64 hd ha) (pd_64 hd hbb) (pd_64 hd hc)
  have hrb : isRain d ⟨x0, x1⟩ ⟨x2, x3⟩ ⟨x4, x5⟩ = rainB (colV d ⟨x0, x1⟩) (colV d ⟨x2, x3⟩) (colV d ⟨x4, x5⟩) := rfl
  have fa := has_f (l := L) (by omega) ma
  have fb := has_f (l := L) (by omega) mb
  rw [hrb] at rb
  generalize colV d ⟨x0, x1⟩ = u at *
  generalize colV d ⟨x2, x3⟩ = v at *
  generalize colV d ⟨x4, x5⟩ = z at *
  refine Ev.bind D ?_
  refine Ev.bind X0 ?_
  refine Ev.bind X1 ?_
  refine Ev.bind X2 ?_
  refine Ev.bind X3 ?_
  refine Ev.bind X4 ?_
  refine Ev.bind X5 ?_
  refine Ev.bind E ?_
  refine Ev.bind ca ?_
  refine Ev.bind cb ?_
  refine Ev.bind cc ?_
  simp only [if_neg (show ¬ (L.length : Int) < 1 by omega), if_neg (show ¬ (L.length : Int) > 2 by omega)]
  refine Ev.bind fa ?_
  simp only [if_true]
  refine Ev.bind fb ?_
  simp only [if_true, if_neg (show ¬ z < 0 by omega), if_neg (show ¬ z > 2 by omega)]
  refine Ev.bind rb ?_
  unfold rainB
  by_cases g1 : u = v
  · simp only [if_pos g1]
    rw [decide_eq_false (by omega)]
    exact hj0
  · simp only [if_neg g1]
    by_cases g2 : v = z
    · simp only [if_pos g2]
      rw [decide_eq_false (by omega)]
      exact hj0
    · simp only [if_neg g2]
      by_cases g3 : u = z
      · rw [decide_eq_false (by omega), show (u != z) = false from bne_eq_false_iff_eq.mpr g3]
        exact hj0
      · rw [decide_eq_true (by omega), show (u != z) = true from bne_iff_ne.mpr g3]
        exact hj0

end Go.Proofs.Ytihnhpohbpfkmaa.Pure
