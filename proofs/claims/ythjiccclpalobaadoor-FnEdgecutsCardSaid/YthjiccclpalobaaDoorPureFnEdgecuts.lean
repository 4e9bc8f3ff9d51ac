/- FnEdgecuts: a plan is worth what the plate is worth, its wares fit into the plate, and no plate is worth more than its area allows. -/
import Derived.Test.YthjiccclpalobaaDoorXFnEdgecutsx7
namespace Go.Proofs.YthjiccclpalobaaDoor.Pure
open Go.RowKit Go.WideShapes Go.Proofs.YthjiccclpalobaaDoor.XFnEdgecuts Go.Proofs.YthjiccclpalobaaDoorW.PrintWords Go.Proofs.YthjiccclpalobaaDoorW.PrintLast
set_option linter.unusedVariables false
set_option linter.unusedSimpArgs false
theorem wf64 {x : Int} (h : (Lit.int .i64 x).wf = true) : -9223372036854775808 ≤ x ∧ x ≤ 9223372036854775807 := by
  simp only [Lit.wf, IntKind.min, IntKind.max, IntKind.signed, IntKind.bits, Bool.and_eq_true, decide_eq_true_eq, if_true] at h
  omega
theorem w64 {x : Int} (h0 : -9223372036854775808 ≤ x) (h1 : x ≤ 9223372036854775807) : wrap64 x = x := by
  unfold wrap64
  omega
theorem succ_of {d k : Nat} (h : d < k) : ∃ m, k = m + 1 := ⟨k - 1, by omega⟩
theorem rd_nat (l : List Int) (i : Nat) : rd l (i : Int) = l.getD i 0 := by simp [rd]
theorem rd_get (l : List Int) (i : Nat) (h : i < l.length) : rd l (i : Int) = l[i] := by simp [rd, List.getD_eq_getElem?_getD, h]
theorem w1 {i : Nat} (h : i ≤ 140737488355328) : wrap64 ((i : Int) + 1) = ((i + 1 : Nat) : Int) := by
  unfold wrap64
  omega
theorem lt_t {i n : Nat} (h : i < n) : ((i : Int) < (n : Int)) = True := eq_true (by omega)
theorem lt_f {i n : Nat} (h : n ≤ i) : ((i : Int) < (n : Int)) = False := eq_false (by omega)
theorem nn_t (i : Nat) : (0 ≤ (i : Int)) = True := eq_true (by omega)
theorem w64n (n : Nat) (h : n ≤ 9223372036854775807) : wrap64 (n : Int) = (n : Int) := w64 (by omega) (by omega)
theorem w64sub (a b c : Nat) (ha : a ≤ 9223372036854775807) (h : a = b + c) : wrap64 ((a : Int) - (b : Int)) = (c : Int) := by
  rw [w64 (by omega) (by omega)]
  omega

theorem more_of {α : Type} {f : Nat → Option α} (h : ∀ k, LeO (f k) (f (k + 1))) {k : Nat} {r : α} (hr : f k = some r) (K : Nat) (hK : k ≤ K) : f K = some r := by
  obtain ⟨m, rfl⟩ := Nat.exists_eq_add_of_le hK
  clear hK
  induction m with
  | zero => exact hr
  | succ m ih => exact h (k + m) _ ih

theorem rdL_get (l : List (List Int)) (i : Nat) (h : i < l.length) : rd_L2 l (i : Int) = l[i] := by simp [rd_L2, List.getD_eq_getElem?_getD, h]

theorem within_f (a b c : Int) : impl_within.f a b c = some (decide (b ≤ a ∧ a ≤ c)) := by
  unfold impl_within.f
  by_cases h : a ≥ b
  · rw [if_pos h]; simp [show b ≤ a from h]
  · rw [if_neg h]; simp [show ¬ b ≤ a from h]

def waresOk (l : List (List Int)) : Bool := decide (l.length ≤ 6) && l.all wareOk
theorem wares_impl (l : List (List Int)) : impl_WaresOk.f l = some (waresOk l) := rfl
theorem waresOk_facts {l : List (List Int)} (h : waresOk l = true) : l.length ≤ 6 ∧ ∀ p ∈ l, p.length = 3 ∧ (1 ≤ rd p 0 ∧ rd p 0 ≤ 16) ∧ (1 ≤ rd p 1 ∧ rd p 1 ≤ 16) ∧ (0 ≤ rd p 2 ∧ rd p 2 ≤ 1000) := by
  simp only [waresOk, Bool.and_eq_true, decide_eq_true_eq, List.all_eq_true] at h
  refine ⟨h.1, fun p hp => ?_⟩
  have := h.2 p hp
  simpa [wareOk] using this
def plateOk (w h : Int) (l : List (List Int)) : Bool := decide (1 ≤ w ∧ w ≤ 16) && (decide (1 ≤ h ∧ h ≤ 16) && waresOk l)
theorem plate_impl (w h : Int) (l : List (List Int)) : impl_isPlate.f w h l = some (plateOk w h l) := by
  unfold impl_isPlate.f plateOk
  simp only [within_f, Option.bind_some, wares_impl]
  by_cases h1 : 1 ≤ w ∧ w ≤ 16
  · by_cases h2 : 1 ≤ h ∧ h ≤ 16
    · simp [h1, h2]
    · simp [h1, h2]
  · simp [h1]

def at_ (a b : Int) : Nat := a.toNat * 17 + b.toNat
theorem idx_w {a b : Int} (ha : 0 ≤ a ∧ a ≤ 16) (hb : 0 ≤ b ∧ b ≤ 16) : wrap64 (wrap64 (a * 17) + b) = ((at_ a b : Nat) : Int) ∧ at_ a b < 289 := by
  unfold at_
  refine ⟨?_, by omega⟩
  rw [w64 (x := a * 17) (by omega) (by omega), w64 (by omega) (by omega)]
  omega
theorem getD_set_ne (ys : List Int) {i j : Nat} (h : i ≠ j) (n : Int) : (ys.set j n).getD i 0 = ys.getD i 0 := by
  rw [List.getD_eq_getElem?_getD, List.getD_eq_getElem?_getD, List.getElem?_set_ne (fun e => h e.symm)]
theorem getD_set_eq (ys : List Int) {j : Nat} (h : j < ys.length) (n : Int) : (ys.set j n).getD j 0 = n := by
  rw [List.getD_eq_getElem?_getD, List.getElem?_set_self h]
  rfl
def Ex (f : Nat → Option (List Int)) : Prop := ∃ K r, f K = some r ∧ r.length = 289
theorem Ex.step {f g : Nat → Option (List Int)} (h : Ex g) (e : ∀ k, f (k + 1) = g k) : Ex f := by
  obtain ⟨K, r, h1, h2⟩ := h
  exact ⟨K + 1, r, (e K).trans h1, h2⟩
section
variable (w h a b : Int) (ps : List (List Int)) (ha : 1 ≤ a ∧ a ≤ 16) (hb : 1 ≤ b ∧ b ≤ 16)
include ha hb
theorem ex_q (H : ∀ xs : List Int, xs.length = 289 → Ex fun k => bvs.b k w h ps xs a (b + 1)) (d : Nat) : ∀ (c : Int) (xs : List Int), (b - c).toNat = d → 1 ≤ c → c ≤ b → xs.length = 289 → Ex fun k => bvs.q k w h ps xs a b c := by
  induction d with
  | zero =>
    intro c xs hd h1 h2 hl
    refine (H xs hl).step (fun k => ?_)
    simp only [bvs.q]
    rw [if_neg (by omega), w64 (x := b + 1) (by omega) (by omega)]
  | succ d ih =>
    intro c xs hd h1 h2 hl
    refine (ih (c + 1) (xs.set (a.toNat * 17 + b.toNat) (mx (xs.getD (a.toNat * 17 + b.toNat) 0) (wrap64 (xs.getD (a.toNat * 17 + c.toNat) 0 + xs.getD (a.toNat * 17 + (wrap64 (b - c)).toNat) 0)))) (by omega) (by omega) (by omega) (by rw [List.length_set]; exact hl)).step (fun k => ?_)
    simp only [bvs.q]
    rw [if_pos (by omega), if_pos (by rw [w64 (x := b - c) (by omega) (by omega)]; omega), w64 (x := c + 1) (by omega) (by omega)]
theorem ex_p (H : ∀ xs : List Int, xs.length = 289 → Ex fun k => bvs.b k w h ps xs a (b + 1)) (d : Nat) : ∀ (c : Int) (xs : List Int), (a - c).toNat = d → 1 ≤ c → c ≤ a → xs.length = 289 → Ex fun k => bvs.p k w h ps xs a b c := by
  induction d with
  | zero =>
    intro c xs hd h1 h2 hl
    refine (ex_q w h a b ps ha hb H _ 1 xs rfl (by omega) (by omega) hl).step (fun k => ?_)
    simp only [bvs.p]
    rw [if_neg (by omega)]
  | succ d ih =>
    intro c xs hd h1 h2 hl
    refine (ih (c + 1) (xs.set (a.toNat * 17 + b.toNat) (mx (xs.getD (a.toNat * 17 + b.toNat) 0) (wrap64 (xs.getD (c.toNat * 17 + b.toNat) 0 + xs.getD ((wrap64 (a - c)).toNat * 17 + b.toNat) 0)))) (by omega) (by omega) (by omega) (by rw [List.length_set]; exact hl)).step (fun k => ?_)
    simp only [bvs.p]
    rw [if_pos (by omega), if_pos (by rw [w64 (x := a - c) (by omega) (by omega)]; omega), w64 (x := c + 1) (by omega) (by omega)]
theorem ex_l (three : ∀ i : Int, 0 ≤ i → i < (ps.length : Int) → (rd_L2 ps i).length = 3) (few : ps.length ≤ 6) (H : ∀ xs : List Int, xs.length = 289 → Ex fun k => bvs.b k w h ps xs a (b + 1)) (d : Nat) : ∀ (i : Nat) (xs : List Int), ps.length - i = d → i ≤ ps.length → xs.length = 289 → Ex fun k => bvs.l k w h ps xs a b (i : Int) := by
  induction d with
  | zero =>
    intro i xs hd hi hl
    refine (ex_p w h a b ps ha hb H _ 1 xs rfl (by omega) (by omega) hl).step (fun k => ?_)
    simp only [bvs.l]
    rw [if_neg (by omega)]
  | succ d ih =>
    intro i xs hd hi hl
    have h3 := three i (by omega) (by omega)
    by_cases c : rd (rd_L2 ps (i : Int)) 0 = a ∧ rd (rd_L2 ps (i : Int)) 1 = b
    · refine (ih (i + 1) (xs.set (a.toNat * 17 + b.toNat) (mx (xs.getD (a.toNat * 17 + b.toNat) 0) (rd (rd_L2 ps (i : Int)) 2))) (by omega) (by omega) (by rw [List.length_set]; exact hl)).step (fun k => ?_)
      simp only [bvs.l]
      rw [if_pos (by omega), if_pos ⟨by omega, h3, by omega, by omega⟩, if_pos c.1, if_pos c.2, w1 (by omega)]
    · refine (ih (i + 1) xs (by omega) (by omega) hl).step (fun k => ?_)
      simp only [bvs.l]
      rw [if_pos (by omega), if_pos ⟨by omega, h3, by omega, by omega⟩, w1 (by omega)]
      by_cases c1 : rd (rd_L2 ps (i : Int)) 0 = a
      · rw [if_pos c1, if_neg (fun e => c ⟨c1, e⟩)]
      · rw [if_neg c1]
end
theorem ex_b (w h a : Int) (ps : List (List Int)) (hh : 1 ≤ h ∧ h ≤ 16) (ha : 1 ≤ a ∧ a ≤ 16) (three : ∀ i : Int, 0 ≤ i → i < (ps.length : Int) → (rd_L2 ps i).length = 3) (few : ps.length ≤ 6) (H : ∀ xs : List Int, xs.length = 289 → Ex fun k => bvs.a k w h ps xs (a + 1)) (d : Nat) : ∀ (b : Int) (xs : List Int), (h + 1 - b).toNat = d → 1 ≤ b → b ≤ h + 1 → xs.length = 289 → Ex fun k => bvs.b k w h ps xs a b := by
  induction d with
  | zero =>
    intro b xs hd h1 h2 hl
    refine (H xs hl).step (fun k => ?_)
    simp only [bvs.b]
    rw [if_neg (by omega), w64 (x := a + 1) (by omega) (by omega)]
  | succ d ih =>
    intro b xs hd h1 h2 hl
    refine (ex_l w h a b ps ha (by omega) three few (fun xs hl => ih (b + 1) xs (by omega) (by omega) (by omega) hl) _ 0 xs rfl (by omega) hl).step (fun k => ?_)
    simp only [bvs.b]
    rw [if_pos (by omega)]
    rfl
theorem ex_a (w h : Int) (ps : List (List Int)) (hw : 1 ≤ w ∧ w ≤ 16) (hh : 1 ≤ h ∧ h ≤ 16) (three : ∀ i : Int, 0 ≤ i → i < (ps.length : Int) → (rd_L2 ps i).length = 3) (few : ps.length ≤ 6) (d : Nat) : ∀ (a : Int) (xs : List Int), (w + 1 - a).toNat = d → 1 ≤ a → a ≤ w + 1 → xs.length = 289 → Ex fun k => bvs.a k w h ps xs a := by
  induction d with
  | zero =>
    intro a xs hd h1 h2 hl
    refine ⟨1, xs, ?_, hl⟩
    simp only [bvs.a]
    rw [if_neg (by omega)]
  | succ d ih =>
    intro a xs hd h1 h2 hl
    refine (ex_b w h a ps hh (by omega) three few (fun xs hl => ih (a + 1) xs (by omega) (by omega) (by omega) hl) _ 1 xs rfl (by omega) (by omega) hl).step (fun k => ?_)
    simp only [bvs.a]
    rw [if_pos (by omega)]

/-! The table of greatest values: each is at least every ware's and every cut's, and comes from one of them. -/
theorem mx_ge_l (a b : Int) : a ≤ mx a b := by unfold mx; split <;> omega
theorem mx_ge_r (a b : Int) : b ≤ mx a b := by unfold mx; split <;> omega
theorem mx_is (a b : Int) : mx a b = a ∨ mx a b = b := by
  unfold mx
  split
  · exact Or.inr rfl
  · exact Or.inl rfl
def tv (t : List Int) (a b : Int) : Int := t.getD (at_ a b) 0
def Mat (ps : List (List Int)) (j : Nat) (a b : Int) : Prop := rd (rd_L2 ps (j : Int)) 0 = a ∧ rd (rd_L2 ps (j : Int)) 1 = b
/-- What is known of a number of the table: where it comes from, its bounds, and what it is not below. -/
structure Cel (ps : List (List Int)) (t : List Int) (a b n : Int) (i : Nat) (c1 c2 : Int) : Prop where
  src : n = 0 ∨ (∃ j : Nat, j < ps.length ∧ Mat ps j a b ∧ rd (rd_L2 ps (j : Int)) 2 = n) ∨ (∃ c : Int, 1 ≤ c ∧ c < a ∧ tv t c b + tv t (a - c) b = n) ∨ (∃ c : Int, 1 ≤ c ∧ c < b ∧ tv t a c + tv t a (b - c) = n)
  lo : 0 ≤ n ∧ n ≤ 1000 * (a * b)
  wa : ∀ j : Nat, j < ps.length → j < i → Mat ps j a b → rd (rd_L2 ps (j : Int)) 2 ≤ n
  vc : ∀ c : Int, 1 ≤ c → c < a → c < c1 → tv t c b + tv t (a - c) b ≤ n
  hc : ∀ c : Int, 1 ≤ c → c < b → c < c2 → tv t a c + tv t a (b - c) ≤ n
def Full (ps : List (List Int)) (t : List Int) (a b : Int) : Prop := Cel ps t a b (tv t a b) ps.length a b
def Dn (h : Int) (ps : List (List Int)) (t : List Int) (a b : Int) : Prop := ∀ a' b' : Int, 1 ≤ a' → a' ≤ 16 → 1 ≤ b' → b' ≤ h → ((a' < a ∨ a' = a ∧ b' < b) → Full ps t a' b') ∧ (¬ (a' < a ∨ a' = a ∧ b' < b) → tv t a' b' = 0)
theorem tv_set_ne {t : List Int} {a b a' b' v : Int} (ha : 0 ≤ a ∧ a ≤ 16) (hb : 0 ≤ b ∧ b ≤ 16) (ha' : 0 ≤ a' ∧ a' ≤ 16) (hb' : 0 ≤ b' ∧ b' ≤ 16) (h : ¬ (a' = a ∧ b' = b)) : tv (t.set (at_ a b) v) a' b' = tv t a' b' :=
  getD_set_ne t (by unfold at_; omega) v
theorem tv_set_eq {t : List Int} {a b v : Int} (hl : t.length = 289) (ha : 0 ≤ a ∧ a ≤ 16) (hb : 0 ≤ b ∧ b ≤ 16) : tv (t.set (at_ a b) v) a b = v :=
  getD_set_eq t (by rw [hl]; exact (idx_w ha hb).2) v
theorem Cel.set {ps : List (List Int)} {t : List Int} {a b n a' b' : Int} {i : Nat} {c1 c2 : Int} (v : Int) (ha : 1 ≤ a' ∧ a' ≤ 16) (hb : 1 ≤ b' ∧ b' ≤ 16) (hA : 1 ≤ a ∧ a ≤ 16) (hB : 1 ≤ b ∧ b ≤ 16) (hlt : a' < a ∨ a' = a ∧ b' ≤ b) (h : Cel ps t a' b' n i c1 c2) : Cel ps (t.set (at_ a b) v) a' b' n i c1 c2 := by
  have e1 : ∀ c : Int, 1 ≤ c → c < a' → tv (t.set (at_ a b) v) c b' + tv (t.set (at_ a b) v) (a' - c) b' = tv t c b' + tv t (a' - c) b' := fun c h1 h2 => by
    rw [tv_set_ne (by omega) (by omega) (by omega) (by omega) (by omega), tv_set_ne (by omega) (by omega) (by omega) (by omega) (by omega)]
  have e2 : ∀ c : Int, 1 ≤ c → c < b' → tv (t.set (at_ a b) v) a' c + tv (t.set (at_ a b) v) a' (b' - c) = tv t a' c + tv t a' (b' - c) := fun c h1 h2 => by
    rw [tv_set_ne (by omega) (by omega) (by omega) (by omega) (by omega), tv_set_ne (by omega) (by omega) (by omega) (by omega) (by omega)]
  refine ⟨?_, h.lo, h.wa, fun c h1 h2 h3 => by rw [e1 c h1 h2]; exact h.vc c h1 h2 h3, fun c h1 h2 h3 => by rw [e2 c h1 h2]; exact h.hc c h1 h2 h3⟩
  rcases h.src with q | q | ⟨c, h1, h2, h3⟩ | ⟨c, h1, h2, h3⟩
  · exact Or.inl q
  · exact Or.inr (Or.inl q)
  · exact Or.inr (Or.inr (Or.inl ⟨c, h1, h2, (e1 c h1 h2).trans h3⟩))
  · exact Or.inr (Or.inr (Or.inr ⟨c, h1, h2, (e2 c h1 h2).trans h3⟩))
theorem Dn.set {h : Int} {ps : List (List Int)} {t : List Int} {a b n : Int} (hl : t.length = 289) (hA : 1 ≤ a ∧ a ≤ 16) (hB : 1 ≤ b ∧ b ≤ 16) (hh : h ≤ 16) (hD : Dn h ps t a b) (hS : Cel ps t a b n ps.length a b) : Dn h ps (t.set (at_ a b) n) a (b + 1) := by
  intro a' b' h1 h2 h3 h4
  by_cases e : a' = a ∧ b' = b
  · obtain ⟨rfl, rfl⟩ := e
    refine ⟨fun _ => ?_, fun q => absurd (show a' < a' ∨ a' = a' ∧ b' < b' + 1 by omega) q⟩
    unfold Full
    rw [tv_set_eq hl (by omega) (by omega)]
    exact hS.set n ⟨h1, h2⟩ ⟨h3, by omega⟩ hA hB (Or.inr ⟨rfl, Int.le_refl _⟩)
  · have e2 : tv (t.set (at_ a b) n) a' b' = tv t a' b' := tv_set_ne (by omega) (by omega) (by omega) (by omega) e
    obtain ⟨g1, g2⟩ := hD a' b' h1 h2 h3 h4
    refine ⟨fun q => ?_, fun q => ?_⟩
    · unfold Full
      rw [e2]
      exact (g1 (by omega)).set n ⟨h1, h2⟩ ⟨h3, by omega⟩ hA hB (by omega)
    · rw [e2]
      exact g2 (by omega)
theorem lo_of {h : Int} {ps : List (List Int)} {t : List Int} {a b : Int} (hD : Dn h ps t a b) (a' b' : Int) (h1 : 1 ≤ a') (h2 : a' ≤ 16) (h3 : 1 ≤ b') (h4 : b' ≤ h) (q : a' < a ∨ a' = a ∧ b' < b) : 0 ≤ tv t a' b' ∧ tv t a' b' ≤ 1000 * (a' * b') := ((hD a' b' h1 h2 h3 h4).1 q).lo
theorem mul_small {a b : Int} (ha : 1 ≤ a ∧ a ≤ 16) (hb : 1 ≤ b ∧ b ≤ 16) : 1 ≤ a * b ∧ a * b ≤ 256 := by
  have h1 := Int.mul_le_mul ha.1 hb.1 (by omega) (by omega)
  have h2 := Int.mul_le_mul ha.2 hb.2 (by omega) (by omega)
  omega
theorem split_v {a b c x y : Int} (hx : x ≤ 1000 * (c * b)) (hy : y ≤ 1000 * ((a - c) * b)) : x + y ≤ 1000 * (a * b) := by
  have : (a - c) * b = a * b - c * b := Int.sub_mul a c b
  omega
theorem split_h {a b c x y : Int} (hx : x ≤ 1000 * (a * c)) (hy : y ≤ 1000 * (a * (b - c))) : x + y ≤ 1000 * (a * b) := by
  have : a * (b - c) = a * b - a * c := Int.mul_sub a b c
  omega
theorem cel_bvs (w h : Int) (ps : List (List Int)) (hw : 1 ≤ w ∧ w ≤ 16) (hh : 1 ≤ h ∧ h ≤ 16) (few : ps.length ≤ 6) (hv : ∀ j : Nat, j < ps.length → 0 ≤ rd (rd_L2 ps (j : Int)) 2 ∧ rd (rd_L2 ps (j : Int)) 2 ≤ 1000) (k : Nat) : ∀ r : List Int,
    (∀ (a : Int) (ys : List Int), 1 ≤ a → a ≤ w + 1 → ys.length = 289 → Dn h ps ys a 1 → bvs.a k w h ps ys a = some r → Dn h ps r (w + 1) 1) ∧
    (∀ (a b : Int) (ys : List Int), 1 ≤ a → a ≤ w → 1 ≤ b → b ≤ h + 1 → ys.length = 289 → Dn h ps ys a b → bvs.b k w h ps ys a b = some r → Dn h ps r (w + 1) 1) ∧
    (∀ (a b n : Int) (i : Nat) (ys : List Int), 1 ≤ a → a ≤ w → 1 ≤ b → b ≤ h → ys.length = 289 → Dn h ps ys a b → Cel ps ys a b n i 0 0 → bvs.l k w h ps (ys.set (at_ a b) n) a b (i : Int) = some r → Dn h ps r (w + 1) 1) ∧
    (∀ (a b n c : Int) (ys : List Int), 1 ≤ a → a ≤ w → 1 ≤ b → b ≤ h → 1 ≤ c → ys.length = 289 → Dn h ps ys a b → Cel ps ys a b n ps.length c 0 → bvs.p k w h ps (ys.set (at_ a b) n) a b c = some r → Dn h ps r (w + 1) 1) ∧
    (∀ (a b n c : Int) (ys : List Int), 1 ≤ a → a ≤ w → 1 ≤ b → b ≤ h → 1 ≤ c → ys.length = 289 → Dn h ps ys a b → Cel ps ys a b n ps.length a c → bvs.q k w h ps (ys.set (at_ a b) n) a b c = some r → Dn h ps r (w + 1) 1) := by
  induction k with
  | zero => intro r; exact ⟨fun _ _ _ _ _ _ h => by simp [bvs.a] at h, fun _ _ _ _ _ _ _ _ _ h => by simp [bvs.b] at h, fun _ _ _ _ _ _ _ _ _ _ _ _ h => by simp [bvs.l] at h, fun _ _ _ _ _ _ _ _ _ _ _ _ _ h => by simp [bvs.p] at h, fun _ _ _ _ _ _ _ _ _ _ _ _ _ h => by simp [bvs.q] at h⟩
  | succ k ih =>
    intro r
    obtain ⟨i0, i1, i2, i3, i4⟩ := ih r
    refine ⟨?_, ?_, ?_, ?_, ?_⟩
    · intro a ys h1 h2 hl hD H
      simp only [bvs.a] at H
      by_cases c : a ≤ w
      · rw [if_pos c] at H
        exact i1 a 1 ys h1 c (by omega) (by omega) hl hD H
      · rw [if_neg c] at H
        have e1 := Option.some.inj H
        have e2 : a = w + 1 := by omega
        rw [← e1, ← e2]
        exact hD
    · intro a b ys h1 h2 h3 h4 hl hD H
      simp only [bvs.b] at H
      by_cases c : b ≤ h
      · rw [if_pos c] at H
        have hj : at_ a b < 289 := (idx_w (a := a) (b := b) (by omega) (by omega)).2
        have h0 := (hD a b h1 (by omega) h3 c).2 (by omega)
        have hys : ys = ys.set (at_ a b) 0 := by
          unfold tv at h0
          rw [List.getD_eq_getElem?_getD, List.getElem?_eq_getElem (by omega)] at h0
          have h1 : ys[at_ a b]'(by omega) = 0 := h0
          rw [← h1, List.set_getElem_self]
        rw [hys] at H
        have hm := mul_small (a := a) (b := b) (by omega) (by omega)
        exact i2 a b 0 0 ys h1 h2 h3 c hl hD ⟨Or.inl rfl, by omega, fun j _ q => by omega, fun c q1 _ q3 => by omega, fun c q1 _ q3 => by omega⟩ H
      · rw [if_neg c, w64 (x := a + 1) (by omega) (by omega)] at H
        refine i0 (a + 1) ys (by omega) (by omega) hl (fun a' b' g1 g2 g3 g4 => ?_) H
        obtain ⟨q1, q2⟩ := hD a' b' g1 g2 g3 g4
        exact ⟨fun z => q1 (by omega), fun z => q2 (by omega)⟩
    · intro a b n i ys h1 h2 h3 h4 hl hD hS H
      have hj : at_ a b < 289 := (idx_w (a := a) (b := b) (by omega) (by omega)).2
      have hm := mul_small (a := a) (b := b) (by omega) (by omega)
      simp only [bvs.l] at H
      by_cases c : (i : Int) < (ps.length : Int)
      · rw [if_pos c] at H
        by_cases g : 0 ≤ (i : Int) ∧ (rd_L2 ps (i : Int)).length = 3 ∧ (0 ≤ a ∧ a < 17) ∧ 0 ≤ b ∧ b < 17
        · rw [if_pos g, w1 (show i ≤ 140737488355328 by omega)] at H
          have skip : ¬ Mat ps i a b → Cel ps ys a b n (i + 1) 0 0 := fun hno => ⟨hS.src, hS.lo, fun j q1 q2 q3 => by
            by_cases e : j = i
            · rw [e] at q3; exact absurd q3 hno
            · exact hS.wa j q1 (by omega) q3, hS.vc, hS.hc⟩
          by_cases c2 : rd (rd_L2 ps (i : Int)) 0 = a
          · rw [if_pos c2] at H
            by_cases c3 : rd (rd_L2 ps (i : Int)) 1 = b
            · rw [if_pos c3] at H
              have H : bvs.l k w h ps ((ys.set (at_ a b) n).set (at_ a b) (mx ((ys.set (at_ a b) n).getD (at_ a b) 0) (rd (rd_L2 ps (i : Int)) 2))) a b ((i + 1 : Nat) : Int) = some r := H
              rw [List.set_set, getD_set_eq ys (by omega)] at H
              refine i2 a b _ (i + 1) ys h1 h2 h3 h4 hl hD ?_ H
              have hvi := hv i (by omega)
              have l1 := mx_ge_l n (rd (rd_L2 ps (i : Int)) 2)
              have l2 := mx_ge_r n (rd (rd_L2 ps (i : Int)) 2)
              have hlo := hS.lo
              rcases mx_is n (rd (rd_L2 ps (i : Int)) 2) with e | e
              · refine ⟨by rw [e]; exact hS.src, by omega, fun j q1 q2 q3 => ?_, fun c q1 q2 q3 => by omega, fun c q1 q2 q3 => by omega⟩
                by_cases ej : j = i
                · rw [ej]; exact l2
                · exact Int.le_trans (hS.wa j q1 (by omega) q3) l1
              · refine ⟨Or.inr (Or.inl ⟨i, by omega, ⟨c2, c3⟩, e.symm⟩), by omega, fun j q1 q2 q3 => ?_, fun c q1 q2 q3 => by omega, fun c q1 q2 q3 => by omega⟩
                by_cases ej : j = i
                · rw [ej]; exact l2
                · exact Int.le_trans (hS.wa j q1 (by omega) q3) l1
            · rw [if_neg c3] at H
              exact i2 a b n (i + 1) ys h1 h2 h3 h4 hl hD (skip (fun q => c3 q.2)) H
          · rw [if_neg c2] at H
            exact i2 a b n (i + 1) ys h1 h2 h3 h4 hl hD (skip (fun q => c2 q.1)) H
        · rw [if_neg g] at H
          cases H
      · rw [if_neg c] at H
        exact i3 a b n 1 ys h1 h2 h3 h4 (by omega) hl hD ⟨hS.src, hS.lo, fun j q1 _ q3 => hS.wa j q1 (by omega) q3, fun c q1 _ q3 => by omega, hS.hc⟩ H
    · intro a b n c ys h1 h2 h3 h4 h5 hl hD hS H
      have hj : at_ a b < 289 := (idx_w (a := a) (b := b) (by omega) (by omega)).2
      have hm := mul_small (a := a) (b := b) (by omega) (by omega)
      simp only [bvs.p] at H
      by_cases c1 : c < a
      · have b1 := lo_of hD c b h5 (by omega) h3 h4 (Or.inl c1)
        have b2 := lo_of hD (a - c) b (by omega) (by omega) h3 h4 (Or.inl (by omega))
        have b3 := split_v b1.2 b2.2
        rw [if_pos c1, w64 (x := a - c) (by omega) (by omega), w64 (x := c + 1) (by omega) (by omega), if_pos (by omega)] at H
        have n1 : at_ c b ≠ at_ a b := by unfold at_; omega
        have n2 : at_ (a - c) b ≠ at_ a b := by unfold at_; omega
        have H : bvs.p k w h ps ((ys.set (at_ a b) n).set (at_ a b) (mx ((ys.set (at_ a b) n).getD (at_ a b) 0) (wrap64 ((ys.set (at_ a b) n).getD (at_ c b) 0 + (ys.set (at_ a b) n).getD (at_ (a - c) b) 0)))) a b (c + 1) = some r := H
        rw [List.set_set, getD_set_eq ys (by omega), getD_set_ne ys n1, getD_set_ne ys n2] at H
        have H : bvs.p k w h ps (ys.set (at_ a b) (mx n (wrap64 (tv ys c b + tv ys (a - c) b)))) a b (c + 1) = some r := H
        rw [w64 (x := tv ys c b + tv ys (a - c) b) (by omega) (by omega)] at H
        refine i3 a b _ (c + 1) ys h1 h2 h3 h4 (by omega) hl hD ?_ H
        have l1 := mx_ge_l n (tv ys c b + tv ys (a - c) b)
        have l2 := mx_ge_r n (tv ys c b + tv ys (a - c) b)
        have hlo := hS.lo
        have hvc : ∀ c' : Int, 1 ≤ c' → c' < a → c' < c + 1 → tv ys c' b + tv ys (a - c') b ≤ mx n (tv ys c b + tv ys (a - c) b) := fun c' q1 q2 q3 => by
          by_cases e : c' = c
          · rw [e]; exact l2
          · exact Int.le_trans (hS.vc c' q1 q2 (by omega)) l1
        rcases mx_is n (tv ys c b + tv ys (a - c) b) with e | e
        · exact ⟨by rw [e]; exact hS.src, by omega, fun j q1 q2 q3 => Int.le_trans (hS.wa j q1 q2 q3) l1, hvc, fun c' q1 q2 q3 => by omega⟩
        · exact ⟨Or.inr (Or.inr (Or.inl ⟨c, h5, c1, e.symm⟩)), by omega, fun j q1 q2 q3 => Int.le_trans (hS.wa j q1 q2 q3) l1, hvc, fun c' q1 q2 q3 => by omega⟩
      · rw [if_neg c1] at H
        exact i4 a b n 1 ys h1 h2 h3 h4 (by omega) hl hD ⟨hS.src, hS.lo, hS.wa, fun c' q1 q2 _ => hS.vc c' q1 q2 (by omega), fun c' q1 _ q3 => by omega⟩ H
    · intro a b n c ys h1 h2 h3 h4 h5 hl hD hS H
      have hj : at_ a b < 289 := (idx_w (a := a) (b := b) (by omega) (by omega)).2
      have hm := mul_small (a := a) (b := b) (by omega) (by omega)
      simp only [bvs.q] at H
      by_cases c1 : c < b
      · have b1 := lo_of hD a c h1 (by omega) h5 (by omega) (Or.inr ⟨rfl, c1⟩)
        have b2 := lo_of hD a (b - c) h1 (by omega) (by omega) (by omega) (Or.inr ⟨rfl, by omega⟩)
        have b3 := split_h b1.2 b2.2
        rw [if_pos c1, w64 (x := b - c) (by omega) (by omega), w64 (x := c + 1) (by omega) (by omega), if_pos (by omega)] at H
        have n1 : at_ a c ≠ at_ a b := by unfold at_; omega
        have n2 : at_ a (b - c) ≠ at_ a b := by unfold at_; omega
        have H : bvs.q k w h ps ((ys.set (at_ a b) n).set (at_ a b) (mx ((ys.set (at_ a b) n).getD (at_ a b) 0) (wrap64 ((ys.set (at_ a b) n).getD (at_ a c) 0 + (ys.set (at_ a b) n).getD (at_ a (b - c)) 0)))) a b (c + 1) = some r := H
        rw [List.set_set, getD_set_eq ys (by omega), getD_set_ne ys n1, getD_set_ne ys n2] at H
        have H : bvs.q k w h ps (ys.set (at_ a b) (mx n (wrap64 (tv ys a c + tv ys a (b - c))))) a b (c + 1) = some r := H
        rw [w64 (x := tv ys a c + tv ys a (b - c)) (by omega) (by omega)] at H
        refine i4 a b _ (c + 1) ys h1 h2 h3 h4 (by omega) hl hD ?_ H
        have l1 := mx_ge_l n (tv ys a c + tv ys a (b - c))
        have l2 := mx_ge_r n (tv ys a c + tv ys a (b - c))
        have hlo := hS.lo
        have hhc : ∀ c' : Int, 1 ≤ c' → c' < b → c' < c + 1 → tv ys a c' + tv ys a (b - c') ≤ mx n (tv ys a c + tv ys a (b - c)) := fun c' q1 q2 q3 => by
          by_cases e : c' = c
          · rw [e]; exact l2
          · exact Int.le_trans (hS.hc c' q1 q2 (by omega)) l1
        rcases mx_is n (tv ys a c + tv ys a (b - c)) with e | e
        · exact ⟨by rw [e]; exact hS.src, by omega, fun j q1 q2 q3 => Int.le_trans (hS.wa j q1 q2 q3) l1, fun c' q1 q2 q3 => Int.le_trans (hS.vc c' q1 q2 q3) l1, hhc⟩
        · exact ⟨Or.inr (Or.inr (Or.inr ⟨c, h5, c1, e.symm⟩)), by omega, fun j q1 q2 q3 => Int.le_trans (hS.wa j q1 q2 q3) l1, fun c' q1 q2 q3 => Int.le_trans (hS.vc c' q1 q2 q3) l1, hhc⟩
      · rw [if_neg c1, w64 (x := b + 1) (by omega) (by omega)] at H
        refine i1 a (b + 1) _ h1 h2 (by omega) (by omega) (by rw [List.length_set]; exact hl) (hD.set hl ⟨h1, by omega⟩ ⟨h3, by omega⟩ hh.2 ⟨hS.src, hS.lo, hS.wa, hS.vc, fun c' q1 q2 _ => hS.hc c' q1 q2 (by omega)⟩) H
/-- The finished table. -/
structure Best (w h : Int) (ps : List (List Int)) (t : List Int) : Prop where
  len : t.length = 289
  full : ∀ a b : Int, 1 ≤ a → a ≤ w → 1 ≤ b → b ≤ h → Full ps t a b
/-- Whatever is not below wares and cuts is not below the table. -/
theorem Best.le {w h : Int} {ps : List (List Int)} {t : List Int} (B : Best w h ps t) (U : Int → Int → Int) (h0 : ∀ a b, 1 ≤ a → a ≤ w → 1 ≤ b → b ≤ h → 0 ≤ U a b)
    (hwa : ∀ a b, 1 ≤ a → a ≤ w → 1 ≤ b → b ≤ h → ∀ j : Nat, j < ps.length → Mat ps j a b → rd (rd_L2 ps (j : Int)) 2 ≤ U a b)
    (hv : ∀ a b c, 1 ≤ a → a ≤ w → 1 ≤ b → b ≤ h → 1 ≤ c → c < a → U c b + U (a - c) b ≤ U a b) (hh : ∀ a b c, 1 ≤ a → a ≤ w → 1 ≤ b → b ≤ h → 1 ≤ c → c < b → U a c + U a (b - c) ≤ U a b) (m : Nat) :
    ∀ a b : Int, a.toNat + b.toNat ≤ m → 1 ≤ a → a ≤ w → 1 ≤ b → b ≤ h → tv t a b ≤ U a b := by
  induction m with
  | zero => intro a b hm h1 h2 h3 h4; omega
  | succ m ih =>
    intro a b hm h1 h2 h3 h4
    rcases (B.full a b h1 h2 h3 h4).src with q | ⟨j, q1, q2, q3⟩ | ⟨c, q1, q2, q3⟩ | ⟨c, q1, q2, q3⟩
    · rw [q]; exact h0 a b h1 h2 h3 h4
    · rw [← q3]; exact hwa a b h1 h2 h3 h4 j q1 q2
    · have e1 := ih c b (by omega) q1 (by omega) h3 h4
      have e2 := ih (a - c) b (by omega) (by omega) (by omega) h3 h4
      have e3 := hv a b c h1 h2 h3 h4 q1 q2
      omega
    · have e1 := ih a c (by omega) h1 h2 q1 (by omega)
      have e2 := ih a (b - c) (by omega) h1 h2 (by omega) (by omega)
      have e3 := hh a b c h1 h2 h3 h4 q1 q2
      omega

theorem best_ex (w h : Int) (ps : List (List Int)) (hp : plateOk w h ps = true) : ∃ (t : List Int) (K : Nat), Best w h ps t ∧ ∀ k, K ≤ k → impl_bestValues.f k w h ps = some t ∧ impl_BestValue.f k w h ps = some (tv t w h) := by
  have hp' := hp
  simp only [plateOk, Bool.and_eq_true, decide_eq_true_eq] at hp'
  obtain ⟨hw, hh, ho⟩ := hp'
  obtain ⟨few, hall⟩ := waresOk_facts ho
  have hmem : ∀ i : Int, 0 ≤ i → i < (ps.length : Int) → rd_L2 ps i ∈ ps := fun i h0 h1 => by
    unfold rd_L2
    rw [List.getD_eq_getElem?_getD, List.getElem?_eq_getElem (by omega)]
    exact List.getElem_mem _
  have three : ∀ i : Int, 0 ≤ i → i < (ps.length : Int) → (rd_L2 ps i).length = 3 := fun i h0 h1 => (hall _ (hmem i h0 h1)).1
  obtain ⟨K, t, ht, hl⟩ := ex_a w h ps hw hh three few _ 1 (List.replicate 289 0) rfl (by omega) (by omega) List.length_replicate
  have hz : ∀ i : Nat, (List.replicate 289 (0 : Int)).getD i 0 = 0 := fun i => by
    rw [List.getD_eq_getElem?_getD, List.getElem?_replicate]
    split <;> rfl
  have hD := (cel_bvs w h ps hw hh few (fun j hj => (hall _ (hmem j (by omega) (by omega))).2.2.2) K t).1 1 (List.replicate 289 0) (by omega) (by omega) List.length_replicate (fun a b h1 _ h3 _ => ⟨fun q => by omega, fun _ => hz _⟩) ht
  obtain ⟨i1, i2⟩ := idx_w (a := w) (b := h) (by omega) (by omega)
  refine ⟨t, K, ⟨hl, fun a b h1 h2 h3 h4 => (hD a b h1 (by omega) h3 h4).1 (by omega)⟩, fun k hk => ?_⟩
  have hI : impl_bestValues.f k w h ps = some t := more_of (f := fun k => impl_bestValues.f k w h ps) (impl_bestValues.mono w h ps) ht k hk
  refine ⟨hI, ?_⟩
  unfold impl_BestValue.f
  rw [plate_impl, hp, Option.bind_some, if_pos rfl, hI, Option.bind_some, if_pos (by omega)]
  rfl
theorem Best.sub {w h w' h' : Int} {ps : List (List Int)} {t : List Int} (B : Best w h ps t) (h1 : w' ≤ w) (h2 : h' ≤ h) : Best w' h' ps t :=
  ⟨B.len, fun a b q1 q2 q3 q4 => B.full a b q1 (by omega) q3 (by omega)⟩
theorem Best.le2 {w h w' h' : Int} {ps : List (List Int)} {t t' : List Int} (B : Best w h ps t) (B' : Best w' h' ps t') (a b : Int) (h1 : 1 ≤ a) (h2 : a ≤ w) (h2' : a ≤ w') (h3 : 1 ≤ b) (h4 : b ≤ h) (h4' : b ≤ h') : tv t a b ≤ tv t' a b := by
  have F := B'.sub h2' h4'
  refine (B.sub h2 h4).le (fun x y => tv t' x y) (fun x y q1 q2 q3 q4 => (F.full x y q1 q2 q3 q4).lo.1) (fun x y q1 q2 q3 q4 j hj hm => (F.full x y q1 q2 q3 q4).wa j hj hj hm) (fun x y c q1 q2 q3 q4 c1 c2 => (F.full x y q1 q2 q3 q4).vc c c1 c2 c2) (fun x y c q1 q2 q3 q4 c1 c2 => (F.full x y q1 q2 q3 q4).hc c c1 c2 c2) _ a b (Nat.le_refl _) h1 (Int.le_refl _) h3 (Int.le_refl _)
theorem Best.eq {w h w' h' : Int} {ps : List (List Int)} {t t' : List Int} (B : Best w h ps t) (B' : Best w' h' ps t') (a b : Int) (h1 : 1 ≤ a) (h2 : a ≤ w) (h2' : a ≤ w') (h3 : 1 ≤ b) (h4 : b ≤ h) (h4' : b ≤ h') : tv t a b = tv t' a b :=
  Int.le_antisymm (B.le2 B' a b h1 h2 h2' h3 h4 h4') (B'.le2 B a b h1 h2' h2 h3 h4' h4)
/-- Wares with their sides changed. -/
def trn (p : List Int) : List Int := [rd p 1, rd p 0, rd p 2]
theorem trn_rd (ps : List (List Int)) (j : Nat) (hj : j < ps.length) : rd_L2 (ps.map trn) (j : Int) = trn (rd_L2 ps (j : Int)) := by
  rw [rdL_get _ j (by rw [List.length_map]; exact hj), rdL_get _ j hj, List.getElem_map]
theorem trn_mat (ps : List (List Int)) (j : Nat) (hj : j < ps.length) (a b : Int) : Mat (ps.map trn) j b a ↔ Mat ps j a b := by
  unfold Mat
  rw [trn_rd ps j hj]
  show rd (rd_L2 ps (j : Int)) 1 = b ∧ rd (rd_L2 ps (j : Int)) 0 = a ↔ _
  exact And.comm
theorem trn_le {w h : Int} {ps : List (List Int)} {t t' : List Int} (B : Best w h ps t) (B' : Best h w (ps.map trn) t') (hw : 1 ≤ w) (hh : 1 ≤ h) : tv t w h ≤ tv t' h w := by
  refine B.le (fun x y => tv t' y x) (fun x y q1 q2 q3 q4 => (B'.full y x q3 q4 q1 q2).lo.1) (fun x y q1 q2 q3 q4 j hj hm => ?_) (fun x y c q1 q2 q3 q4 c1 c2 => (B'.full y x q3 q4 q1 q2).hc c c1 c2 c2) (fun x y c q1 q2 q3 q4 c1 c2 => (B'.full y x q3 q4 q1 q2).vc c c1 c2 c2) _ w h (Nat.le_refl _) hw (Int.le_refl _) hh (Int.le_refl _)
  have := (B'.full y x q3 q4 q1 q2).wa j (by rw [List.length_map]; exact hj) (by rw [List.length_map]; exact hj) ((trn_mat ps j hj x y).2 hm)
  rw [trn_rd ps j hj] at this
  exact this
theorem trn_ge {w h : Int} {ps : List (List Int)} {t t' : List Int} (B : Best w h ps t) (B' : Best h w (ps.map trn) t') (hw : 1 ≤ w) (hh : 1 ≤ h) : tv t' h w ≤ tv t w h := by
  refine B'.le (fun x y => tv t y x) (fun x y q1 q2 q3 q4 => (B.full y x q3 q4 q1 q2).lo.1) (fun x y q1 q2 q3 q4 j hj hm => ?_) (fun x y c q1 q2 q3 q4 c1 c2 => (B.full y x q3 q4 q1 q2).hc c c1 c2 c2) (fun x y c q1 q2 q3 q4 c1 c2 => (B.full y x q3 q4 q1 q2).vc c c1 c2 c2) _ h w (Nat.le_refl _) hh (Int.le_refl _) hw (Int.le_refl _)
  rw [List.length_map] at hj
  have := (B.full y x q3 q4 q1 q2).wa j hj hj ((trn_mat ps j hj y x).1 hm)
  rw [trn_rd ps j hj]
  exact this
theorem Best.fits {w h : Int} {ps : List (List Int)} {t : List Int} (B : Best w h ps t) (j : Nat) (hj : j < ps.length) (h0 : 1 ≤ rd (rd_L2 ps (j : Int)) 0) (h1 : rd (rd_L2 ps (j : Int)) 0 ≤ w) (h2 : 1 ≤ rd (rd_L2 ps (j : Int)) 1) (h3 : rd (rd_L2 ps (j : Int)) 1 ≤ h) : rd (rd_L2 ps (j : Int)) 2 ≤ tv t w h := by
  generalize ha : rd (rd_L2 ps (j : Int)) 0 = a at h0 h1
  generalize hb : rd (rd_L2 ps (j : Int)) 1 = b at h2 h3
  have e1 := (B.full a b h0 h1 h2 h3).wa j hj hj ⟨ha, hb⟩
  have e2 : tv t a b ≤ tv t a h := by
    by_cases q : b = h
    · rw [q]; exact Int.le_refl _
    · have g1 := (B.full a h h0 h1 (by omega) (Int.le_refl _)).hc b h2 (by omega) (by omega)
      have g2 := (B.full a (h - b) h0 h1 (by omega) (by omega)).lo.1
      omega
  have e3 : tv t a h ≤ tv t w h := by
    by_cases q : a = w
    · rw [q]; exact Int.le_refl _
    · have g1 := (B.full w h (by omega) (Int.le_refl _) (by omega) (Int.le_refl _)).vc a h0 (by omega) (by omega)
      have g2 := (B.full (w - a) h (by omega) (by omega) (by omega) (Int.le_refl _)).lo.1
      omega
  omega
theorem Best.none {w h : Int} {t : List Int} (B : Best w h [] t) (hw : 1 ≤ w) (hh : 1 ≤ h) : tv t w h = 0 :=
  Int.le_antisymm (B.le (fun _ _ => 0) (fun _ _ _ _ _ _ => Int.le_refl _) (fun _ _ _ _ _ _ j hj => by simp at hj) (fun _ _ _ _ _ _ _ _ _ => by omega) (fun _ _ _ _ _ _ _ _ _ => by omega) _ w h (Nat.le_refl _) hw (Int.le_refl _) hh (Int.le_refl _)) (B.full w h hw (Int.le_refl _) hh (Int.le_refl _)).lo.1

def area (p : List Int) : Int := rd p 0 * rd p 1
def stepW (T : List Int) (n : Int) (x : Int) (p : List Int) : Int := if area p ≤ n then mx x (rd T (n - area p) + rd p 2) else x
def rowW (l : List (List Int)) (T : List Int) (n x : Int) : Int := l.foldl (stepW T n) x
def Ware (p : List Int) : Prop := p.length = 3 ∧ (1 ≤ rd p 0 ∧ rd p 0 ≤ 16) ∧ (1 ≤ rd p 1 ∧ rd p 1 ≤ 16) ∧ (0 ≤ rd p 2 ∧ rd p 2 ≤ 1000)
theorem area_pos {p : List Int} (h : Ware p) : 1 ≤ area p ∧ area p ≤ 256 := by
  obtain ⟨_, h1, h2, _⟩ := h
  unfold area
  constructor
  · have := Int.mul_le_mul h1.1 h2.1 (by omega) (by omega)
    omega
  · have := Int.mul_le_mul h1.2 h2.2 (by omega) (by omega)
    omega
theorem mx_l (a b : Int) : a ≤ mx a b := by unfold mx; split <;> omega
theorem mx_r (a b : Int) : b ≤ mx a b := by unfold mx; split <;> omega
theorem mx_le {a b c : Int} (h1 : a ≤ c) (h2 : b ≤ c) : mx a b ≤ c := by unfold mx; split <;> omega
theorem mx_of_le {a b : Int} (h : a ≤ b) : mx a b = b := by unfold mx; split <;> omega
theorem mx_assoc (a b c : Int) : mx (mx a b) c = mx a (mx b c) := by unfold mx; repeat' split <;> (try omega)
theorem rowW_mx (l : List (List Int)) (T : List Int) (n : Int) : ∀ a b, rowW l T n (mx a b) = mx a (rowW l T n b) := by
  induction l with
  | nil => intro a b; rfl
  | cons p r ih =>
    intro a b
    show rowW r T n (stepW T n (mx a b) p) = mx a (rowW r T n (stepW T n b p))
    have : stepW T n (mx a b) p = mx a (stepW T n b p) := by
      unfold stepW
      split
      · rw [mx_assoc]
      · rfl
    rw [this, ih]
theorem rowW_ge (l : List (List Int)) (T : List Int) (n : Int) : ∀ a, a ≤ rowW l T n a := by
  induction l with
  | nil => intro a; exact Int.le_refl _
  | cons p r ih =>
    intro a
    refine Int.le_trans ?_ (ih (stepW T n a p))
    unfold stepW
    split
    · exact mx_l _ _
    · exact Int.le_refl _
/-- Only what lies before place n is read. -/
theorem rowW_same (l : List (List Int)) (hl : ∀ p ∈ l, Ware p) (T T' : List Int) (n : Int) (h : ∀ j : Int, 0 ≤ j → j < n → rd T j = rd T' j) : ∀ a, rowW l T n a = rowW l T' n a := by
  induction l with
  | nil => intro a; rfl
  | cons p r ih =>
    intro a
    have hp := area_pos (hl p (by simp))
    show rowW r T n (stepW T n a p) = rowW r T' n (stepW T' n a p)
    have : stepW T n a p = stepW T' n a p := by
      unfold stepW
      split
      · rw [h _ (by omega) (by omega)]
      · rfl
    rw [this]
    exact ih (fun q hq => hl q (by simp [hq])) _
theorem rowW_bound (l : List (List Int)) (hl : ∀ p ∈ l, Ware p) (T : List Int) (n : Int) (h : ∀ j : Int, 0 ≤ j → j < n → 0 ≤ rd T j ∧ rd T j ≤ 1000 * j) : ∀ a, 0 ≤ a → a ≤ 1000 * n → 0 ≤ rowW l T n a ∧ rowW l T n a ≤ 1000 * n := by
  induction l with
  | nil => intro a h0 h1; exact ⟨h0, h1⟩
  | cons p r ih =>
    intro a h0 h1
    have hp := area_pos (hl p (by simp))
    have hv := (hl p (by simp)).2.2.2
    show 0 ≤ rowW r T n (stepW T n a p) ∧ rowW r T n (stepW T n a p) ≤ 1000 * n
    refine ih (fun q hq => hl q (by simp [hq])) _ ?_ ?_
    · unfold stepW
      split
      · exact Int.le_trans h0 (mx_l _ _)
      · exact h0
    · unfold stepW
      split
      · have := h (n - area p) (by omega) (by omega)
        exact mx_le h1 (by omega)
      · exact h1
theorem rowW_mono (l : List (List Int)) (hl : ∀ p ∈ l, Ware p) (T : List Int) (n : Int) (h : ∀ j : Int, 0 ≤ j → j + 1 < n → rd T j ≤ rd T (j + 1)) : ∀ a b, a ≤ b → rowW l T (n - 1) a ≤ rowW l T n b := by
  induction l with
  | nil => intro a b hab; exact hab
  | cons p r ih =>
    intro a b hab
    have hp := area_pos (hl p (by simp))
    show rowW r T (n - 1) (stepW T (n - 1) a p) ≤ rowW r T n (stepW T n b p)
    refine ih (fun q hq => hl q (by simp [hq])) _ _ ?_
    unfold stepW
    by_cases g : area p ≤ n - 1
    · rw [if_pos g, if_pos (by omega)]
      have := h (n - 1 - area p) (by omega) (by omega)
      rw [show n - 1 - area p + 1 = n - area p by omega] at this
      exact mx_le (Int.le_trans hab (mx_l _ _)) (Int.le_trans (by omega) (mx_r _ _))
    · rw [if_neg g]
      split
      · exact Int.le_trans hab (mx_l _ _)
      · exact hab
/-- The table up to place n. -/
structure GoodA (l : List (List Int)) (S : List Int) : Prop where
  bound : ∀ j : Int, 0 ≤ j → j < (S.length : Int) → 0 ≤ rd S j ∧ rd S j ≤ 1000 * j
  rows : ∀ j : Int, 0 ≤ j → j < (S.length : Int) → rd S j = rowW l S j 0
  mono : ∀ j : Int, 0 ≤ j → j + 1 < (S.length : Int) → rd S j ≤ rd S (j + 1)
theorem rd_app_l {S R : List Int} {j : Int} (h0 : 0 ≤ j) (h1 : j < (S.length : Int)) : rd (S ++ R) j = rd S j := by
  obtain ⟨m, rfl⟩ := Int.eq_ofNat_of_zero_le h0
  rw [rd_get _ _ (by rw [List.length_append]; omega), rd_get _ _ (by omega), List.getElem_append_left (by omega)]
theorem rd_app_r {S : List Int} {x : Int} {R : List Int} : rd (S ++ x :: R) (S.length : Int) = x := by
  rw [rd_get _ _ (by rw [List.length_append]; simp)]
  simp
theorem good_next {l : List (List Int)} (hl : ∀ p ∈ l, Ware p) {S : List Int} (g : GoodA l S) (h1 : 1 ≤ S.length) : rowW l S (S.length : Int) (rd S ((S.length : Int) - 1)) = rowW l S (S.length : Int) 0 ∧ GoodA l (S ++ [rowW l S (S.length : Int) 0]) := by
  have hb := g.bound ((S.length : Int) - 1) (by omega) (by omega)
  have hr := g.rows ((S.length : Int) - 1) (by omega) (by omega)
  have hm := rowW_mono l hl S (S.length : Int) g.mono 0 0 (Int.le_refl _)
  rw [← hr] at hm
  have hbn := rowW_bound l hl S (S.length : Int) g.bound 0 (Int.le_refl _) (by omega)
  have e : rowW l S (S.length : Int) (rd S ((S.length : Int) - 1)) = rowW l S (S.length : Int) 0 := by
    have : rd S ((S.length : Int) - 1) = mx (rd S ((S.length : Int) - 1)) 0 := by unfold mx; split <;> omega
    rw [this, rowW_mx, mx_of_le hm]
  refine ⟨e, ?_⟩
  generalize hz : rowW l S (S.length : Int) 0 = z at *
  have cases_ : ∀ j : Int, 0 ≤ j → j < ((S ++ [z]).length : Int) → j < (S.length : Int) ∨ j = (S.length : Int) := by
    intro j _ h
    rw [List.length_append] at h
    simp at h
    omega
  have same : ∀ n : Int, n ≤ (S.length : Int) → ∀ a, rowW l (S ++ [z]) n a = rowW l S n a := fun n hn a => rowW_same l hl _ _ n (fun j j0 j1 => rd_app_l j0 (by omega)) a
  refine ⟨fun j h0 h => ?_, fun j h0 h => ?_, fun j h0 h => ?_⟩
  · rcases cases_ j h0 h with hj | hj
    · rw [rd_app_l h0 hj]; exact g.bound j h0 hj
    · subst hj; rw [rd_app_r]; exact hbn
  · rcases cases_ j h0 h with hj | hj
    · rw [rd_app_l h0 hj, same j (by omega)]; exact g.rows j h0 hj
    · subst hj; rw [rd_app_r, same _ (Int.le_refl _), hz]
  · rcases cases_ (j + 1) (by omega) h with hj | hj
    · rw [rd_app_l h0 (by omega), rd_app_l (by omega) hj]; exact g.mono j h0 hj
    · rw [hj, rd_app_r, rd_app_l h0 (by omega), show j = (S.length : Int) - 1 by omega]; exact hm
theorem set_set_same (T : List Int) (n : Nat) (a b : Int) : (T.set n a).set n b = T.set n b := by simp
theorem impl_row (w h : Int) (l : List (List Int)) (hl : ∀ p ∈ l, Ware p) (hl6 : l.length ≤ 6) (N : Int) (n : Nat) (hn2 : n ≤ 256) (d : Nat) : ∀ (m i : Nat) (T : List Int), n < T.length → (∀ j : Int, 0 ≤ j → j < (n : Int) → 0 ≤ rd T j ∧ rd T j ≤ 1000 * j) → l.length - i = d → i ≤ l.length → impl_AreaBound.l1 (d + 1 + m) w h l T (n : Int) N (n : Int) l (l.length : Int) (i : Int) = impl_AreaBound.l0 m w h l (T.set n (rowW (l.drop i) T (n : Int) (rd T (n : Int)))) N ((n + 1 : Nat) : Int) := by
  induction d with
  | zero =>
    intro m i T hT hb hd hi
    rw [show 0 + 1 + m = m + 1 by omega]
    simp only [impl_AreaBound.l1, lt_f (show l.length ≤ i by omega), if_false, List.drop_of_length_le (show l.length ≤ i by omega), w1 (show n ≤ 140737488355328 by omega)]
    congr 1
    show T = T.set n (rd T (n : Int))
    rw [rd_get T n hT, List.set_getElem_self]
  | succ d ih =>
    intro m i T hT hb hd hi
    have hlt : i < l.length := by omega
    have hp := hl _ (List.getElem_mem hlt)
    have ha := area_pos hp
    have hp3 := hp.1
    have hv := hp.2.2.2
    rw [show d + 1 + 1 + m = (d + 1 + m) + 1 by omega, List.drop_eq_getElem_cons hlt]
    have hrow : rowW (l[i] :: l.drop (i + 1)) T (n : Int) (rd T (n : Int)) = rowW (l.drop (i + 1)) T (n : Int) (stepW T (n : Int) (rd T (n : Int)) l[i]) := rfl
    rw [hrow]
    simp only [impl_AreaBound.l1, lt_t hlt, nn_t, if_true, rdL_get l i hlt, w1 (show i ≤ 140737488355328 by omega), show (0 < ((l[i]).length : Int)) = True from eq_true (by omega), show (1 < ((l[i]).length : Int)) = True from eq_true (by omega), show (2 < ((l[i]).length : Int)) = True from eq_true (by omega), stepW, lt_t hT]
    have ea : wrap64 (rd l[i] 0 * rd l[i] 1) = area l[i] := w64 (show -9223372036854775808 ≤ area l[i] by omega) (show area l[i] ≤ 9223372036854775807 by omega)
    rw [ea]
    by_cases g : area l[i] ≤ (n : Int)
    · have e2 : wrap64 ((n : Int) - area l[i]) = (n : Int) - area l[i] := w64 (by omega) (by omega)
      have hr := hb ((n : Int) - area l[i]) (by omega) (by omega)
      rw [if_pos g, if_pos g, e2, if_pos (by omega), if_pos (by omega), w64 (by omega) (by omega), Int.toNat_natCast]
      generalize mx (rd T (n : Int)) (rd T ((n : Int) - area l[i]) + rd l[i] 2) = y
      have same : ∀ j : Int, 0 ≤ j → j < (n : Int) → rd (T.set n y) j = rd T j := by
        intro j h0 h1
        obtain ⟨q, rfl⟩ := Int.eq_ofNat_of_zero_le h0
        rw [rd_get _ _ (by rw [List.length_set]; omega), rd_get _ _ (by omega), List.getElem_set_ne (by omega)]
      rw [ih m (i + 1) (T.set n y) (by rw [List.length_set]; exact hT) (fun j h0 h1 => by rw [same j h0 h1]; exact hb j h0 h1) (by omega) (by omega)]
      rw [set_set_same, rowW_same _ (fun p hp => hl p (List.mem_of_mem_drop hp)) (T.set n y) T (n : Int) same]
      congr 2
      rw [rd_get _ _ (by rw [List.length_set]; exact hT), List.getElem_set_self]
    · rw [if_neg g, if_neg g]
      exact ih m (i + 1) T hT hb (by omega) (by omega)
theorem row_zero (l : List (List Int)) (hl : ∀ p ∈ l, Ware p) (T : List Int) (a : Int) : rowW l T 0 a = a := by
  induction l with
  | nil => rfl
  | cons p r ih =>
    have ha := area_pos (hl p (by simp))
    show rowW r T 0 (stepW T 0 a p) = a
    unfold stepW
    rw [if_neg (by omega)]
    exact ih (fun x hx => hl x (by simp [hx]))
theorem tables2 (w h : Int) (N : Nat) (hN : (N : Int) = w * h) (hN2 : N ≤ 256) (l : List (List Int)) (hl : ∀ p ∈ l, Ware p) (hl6 : l.length ≤ 6) (d : Nat) : ∀ (S : List Int), 1 ≤ S.length → N + 1 - S.length = d → S.length ≤ N + 1 → GoodA l S → ∃ S', GoodA l S' ∧ S'.length = N + 1 ∧ ∀ m, impl_AreaBound.l0 (d * 10 + 1 + m) w h l (S ++ List.replicate d 0) ((N + 1 : Nat) : Int) (S.length : Int) = some (rd S' (N : Int)) := by
  have ewh : wrap64 (w * h) = (N : Int) := by rw [← hN]; exact w64n N (by omega)
  induction d with
  | zero =>
    intro S h1 hd hS g
    have hSN : S.length = N + 1 := by omega
    refine ⟨S, g, hSN, fun m => ?_⟩
    rw [show 0 * 10 + 1 + m = m + 1 by omega]
    simp only [impl_AreaBound.l0, ewh, hSN, List.replicate_zero, List.append_nil]
    simp only [show (((N + 1 : Nat) : Int) < ((N + 1 : Nat) : Int)) = False from eq_false (by omega), nn_t, lt_t (Nat.lt_succ_self N), if_true, if_false]
  | succ d ih =>
    intro S h1 hd hS g
    have hlen : S.length ≤ N := by omega
    obtain ⟨e, g2⟩ := good_next hl g h1
    have hr1 : (S ++ [rowW l S (S.length : Int) 0]).length = S.length + 1 := by simp
    obtain ⟨S', s1, s2, s3⟩ := ih (S ++ [rowW l S (S.length : Int) 0]) (by omega) (by omega) (by omega) g2
    refine ⟨S', s1, s2, fun m => ?_⟩
    have r2 := s3 (m + (8 - l.length))
    rw [hr1] at r2
    rw [show (d + 1) * 10 + 1 + m = (l.length + 1 + (d * 10 + 1 + (m + (8 - l.length)))) + 1 by omega]
    simp only [impl_AreaBound.l0]
    rw [if_pos (by omega)]
    have hTl : (S ++ List.replicate (d + 1) (0 : Int)).length = S.length + (d + 1) := by simp
    have hTb : ∀ j : Int, 0 ≤ j → j < (S.length : Int) → rd (S ++ List.replicate (d + 1) (0 : Int)) j = rd S j := fun j h0 h1 => rd_app_l h0 h1
    have := impl_row w h l hl hl6 ((N + 1 : Nat) : Int) S.length (by omega) l.length (d * 10 + 1 + (m + (8 - l.length))) 0 (S ++ List.replicate (d + 1) 0) (by omega) (fun j h0 h1 => by rw [hTb j h0 h1]; exact g.bound j h0 h1) (by omega) (by omega)
    rw [Int.ofNat_zero, List.drop_zero, rowW_same l hl _ S (S.length : Int) hTb] at this
    have e0 : rd (S ++ List.replicate (d + 1) (0 : Int)) (S.length : Int) = 0 := by rw [List.replicate_succ, rd_app_r]
    rw [e0] at this
    have e1 : (S ++ List.replicate (d + 1) (0 : Int)).set S.length (rowW l S (S.length : Int) 0) = (S ++ [rowW l S (S.length : Int) 0]) ++ List.replicate d 0 := by
      rw [List.set_append_right _ _ (Nat.le_refl _), List.replicate_succ]
      simp
    rw [e1] at this
    rw [this, r2]
theorem area_ex (w h : Int) (l : List (List Int)) (hp : plateOk w h l = true) : ∃ (S : List Int) (K : Nat), GoodA l S ∧ (S.length : Int) = w * h + 1 ∧ ∀ k, K ≤ k → impl_AreaBound.f k w h l = some (rd S (w * h)) := by
  have hp' := hp
  simp only [plateOk, Bool.and_eq_true, decide_eq_true_eq] at hp'
  obtain ⟨h1, h2, h3⟩ := hp'
  obtain ⟨h4, h5⟩ := waresOk_facts h3
  have b1 : 1 ≤ w * h := by have := Int.mul_le_mul h1.1 h2.1 (by omega) (by omega); omega
  have b2 : w * h ≤ 256 := by have := Int.mul_le_mul h1.2 h2.2 (by omega) (by omega); omega
  obtain ⟨N, hN⟩ := Int.eq_ofNat_of_zero_le (show 0 ≤ w * h by omega)
  have hN2 : N ≤ 256 := by omega
  have g0 : GoodA l [0] := by
    refine ⟨fun j h0 h => ?_, fun j h0 h => ?_, fun j h0 h => ?_⟩
    · simp at h
      obtain rfl : j = 0 := by omega
      simp [rd]
    · simp at h
      obtain rfl : j = 0 := by omega
      rw [row_zero l h5]
      simp [rd]
    · simp at h
      omega
  obtain ⟨S, s1, s2, s3⟩ := tables2 w h N (by omega) hN2 l h5 h4 N [0] (by simp) (by simp) (by simp) g0
  refine ⟨S, N * 10 + 20, s1, by omega, fun k hk => ?_⟩
  have r2' : impl_AreaBound.l0 k w h l (List.replicate (N + 1) 0) ((N + 1 : Nat) : Int) 0 = some (rd S (N : Int)) := by
    rw [show k = (l.length + 1 + (N * 10 + 1 + (k - l.length - 3 - N * 10))) + 1 by omega]
    simp only [impl_AreaBound.l0]
    rw [if_pos (by omega)]
    have := impl_row w h l h5 h4 ((N + 1 : Nat) : Int) 0 (by omega) l.length (N * 10 + 1 + (k - l.length - 3 - N * 10)) 0 (List.replicate (N + 1) 0) (by simp) (fun j j0 j1 => by omega) (by omega) (by omega)
    rw [List.drop_zero, Int.ofNat_zero, row_zero l h5] at this
    rw [this]
    have e0 : (List.replicate (N + 1) (0 : Int)).set 0 (rd (List.replicate (N + 1) (0 : Int)) 0) = [0] ++ List.replicate N 0 := by simp [List.replicate_succ, rd]
    rw [e0]
    exact s3 _
  unfold impl_AreaBound.f
  rw [plate_impl w h l, hp]
  simp only [Option.bind_some, if_true]
  rw [hN]
  have e1 : wrap64 ((N : Nat) : Int) = (N : Int) := w64n N (by omega)
  have e2 : wrap64 ((N : Int) + 1) = ((N + 1 : Nat) : Int) := w1 (by omega)
  simp only [e1, e2]
  rw [if_pos (by omega), if_pos (by omega)]
  simp only [Option.bind_some, Int.toNat_natCast, List.length_replicate]
  exact r2'
theorem rowW_in (l : List (List Int)) (T : List Int) (n : Int) (p : List Int) (hp : p ∈ l) (hn : area p ≤ n) : ∀ a, rd T (n - area p) + rd p 2 ≤ rowW l T n a := by
  induction l with
  | nil => cases hp
  | cons q r ih =>
    intro a
    show _ ≤ rowW r T n (stepW T n a q)
    rcases List.mem_cons.1 hp with e | e
    · subst e
      refine Int.le_trans ?_ (rowW_ge r T n _)
      unfold stepW
      rw [if_pos hn]
      exact mx_r _ _
    · exact ih e _
theorem rowW_src (l : List (List Int)) (T : List Int) (n : Int) : ∀ a, rowW l T n a = a ∨ ∃ p ∈ l, area p ≤ n ∧ rowW l T n a = rd T (n - area p) + rd p 2 := by
  induction l with
  | nil => intro a; exact Or.inl rfl
  | cons q r ih =>
    intro a
    show rowW r T n (stepW T n a q) = a ∨ ∃ p ∈ q :: r, area p ≤ n ∧ rowW r T n (stepW T n a q) = _
    rcases ih (stepW T n a q) with e | ⟨p, p1, p2, p3⟩
    · rw [e]
      unfold stepW
      by_cases c : area q ≤ n
      · rw [if_pos c]
        rcases mx_is a (rd T (n - area q) + rd q 2) with z | z
        · exact Or.inl z
        · exact Or.inr ⟨q, by simp, c, z⟩
      · rw [if_neg c]
        exact Or.inl rfl
    · exact Or.inr ⟨p, by simp [p1], p2, p3⟩
theorem good_mono {l : List (List Int)} {S : List Int} (g : GoodA l S) (d : Nat) : ∀ j : Int, 0 ≤ j → j + d < (S.length : Int) → rd S j ≤ rd S (j + d) := by
  induction d with
  | zero => intro j _ _; rw [Int.ofNat_zero, Int.add_zero]; exact Int.le_refl _
  | succ d ih =>
    intro j h0 h1
    have e1 := ih j h0 (by omega)
    have e2 := g.mono (j + d) (by omega) (by omega)
    rw [show j + ((d + 1 : Nat) : Int) = j + (d : Int) + 1 by omega]
    omega
theorem good_sup {l : List (List Int)} (hl : ∀ p ∈ l, Ware p) {S : List Int} (g : GoodA l S) (d : Nat) : ∀ m n : Int, m.toNat ≤ d → 0 ≤ m → 0 ≤ n → m + n < (S.length : Int) → rd S m + rd S n ≤ rd S (m + n) := by
  induction d with
  | zero =>
    intro m n hd h0 h1 h2
    obtain rfl : m = 0 := by omega
    have e := g.rows 0 (by omega) (by omega)
    rw [row_zero l hl] at e
    rw [e, Int.zero_add, Int.zero_add]
    exact Int.le_refl _
  | succ d ih =>
    intro m n hd h0 h1 h2
    have er := g.rows m h0 (by omega)
    rcases rowW_src l S m 0 with e | ⟨p, p1, p2, p3⟩
    · rw [er, e, Int.zero_add]
      have := good_mono g m.toNat n h1 (by omega)
      rw [show n + (m.toNat : Int) = m + n by omega] at this
      exact this
    · have ha := area_pos (hl p p1)
      have e1 := ih (m - area p) n (by omega) (by omega) h1 (by omega)
      have e2 := rowW_in l S (m + n) p p1 (by omega) 0
      rw [← g.rows (m + n) (by omega) h2] at e2
      rw [er, p3]
      rw [show m - area p + n = m + n - area p by omega] at e1
      omega
theorem area_ge {w h : Int} {ps : List (List Int)} {t S : List Int} (B : Best w h ps t) (hw : 1 ≤ w) (hh : 1 ≤ h) (hl : ∀ p ∈ ps, Ware p) (g : GoodA ps S) (hS : (S.length : Int) = w * h + 1) : tv t w h ≤ rd S (w * h) := by
  have hle : ∀ x y : Int, 1 ≤ x → x ≤ w → 1 ≤ y → y ≤ h → 0 ≤ x * y ∧ x * y ≤ w * h := fun x y h1 h2 h3 h4 => by
    have e1 := Int.mul_le_mul h2 h4 (by omega) (by omega)
    have e2 := Int.mul_nonneg (show 0 ≤ x by omega) (show 0 ≤ y by omega)
    exact ⟨e2, e1⟩
  refine B.le (fun x y => rd S (x * y)) (fun x y q1 q2 q3 q4 => ?_) (fun x y q1 q2 q3 q4 j hj hm => ?_) (fun x y c q1 q2 q3 q4 c1 c2 => ?_) (fun x y c q1 q2 q3 q4 c1 c2 => ?_) _ w h (Nat.le_refl _) hw (Int.le_refl _) hh (Int.le_refl _)
  · have := hle x y q1 q2 q3 q4
    exact (g.bound (x * y) (by omega) (by omega)).1
  · have := hle x y q1 q2 q3 q4
    have hmem : rd_L2 ps (j : Int) ∈ ps := by
      rw [rdL_get _ j hj]
      exact List.getElem_mem _
    have ha : area (rd_L2 ps (j : Int)) = x * y := by
      unfold area
      rw [hm.1, hm.2]
    have e := rowW_in ps S (x * y) _ hmem (by omega) 0
    rw [← g.rows (x * y) (by omega) (by omega), ha, Int.sub_self] at e
    have e0 := (g.bound 0 (by omega) (by omega)).1
    show _ ≤ rd S (x * y)
    omega
  · have h1 := hle x y q1 q2 q3 q4
    have h2 := hle c y c1 (by omega) q3 q4
    have h3 := hle (x - c) y (by omega) (by omega) q3 q4
    have e : c * y + (x - c) * y = x * y := by rw [← Int.add_mul]; congr 1; omega
    have := good_sup hl g _ (c * y) ((x - c) * y) (Nat.le_refl _) (by omega) (by omega) (by omega)
    rw [e] at this
    exact this
  · have h1 := hle x y q1 q2 q3 q4
    have h2 := hle x c q1 q2 c1 (by omega)
    have h3 := hle x (y - c) q1 q2 (by omega) (by omega)
    have e : x * c + x * (y - c) = x * y := by rw [← Int.mul_add]; congr 1; omega
    have := good_sup hl g _ (x * c) (x * (y - c)) (Nat.le_refl _) (by omega) (by omega) (by omega)
    rw [e] at this
    exact this

def sfx (P : ByteArray) (i : Nat) : ByteArray := P.extract i P.size
theorem len_data (s : ByteArray) : s.data.toList.length = s.size := Array.length_toList
theorem list_extract (s : ByteArray) (i j : Nat) : (s.extract i j).data.toList = (s.data.toList.drop i).take (j - i) := by
  rw [ByteArray.data_extract, Array.toList_extract]
theorem bt_list (s : ByteArray) (i : Nat) (h : i < s.size) : bt s (i : Int) = ((s.data.toList[i]'(by rw [len_data]; exact h)).toNat : Int) := by
  have h' : ((i : Int)).toNat < s.size := by rw [Int.toNat_natCast]; exact h
  rw [← bt_at s (i : Int) h']
  congr 2
theorem bt_get (s : ByteArray) (i : Nat) (h : i < s.size) : bt s (i : Int) = (((s.data.toList[i]?).getD 0).toNat : Int) := by
  rw [bt_list s i h, List.getElem?_eq_getElem (by rw [len_data]; exact h)]
  rfl
theorem sfx_size (P : ByteArray) (i : Nat) (h : i ≤ P.size) : (sfx P i).size = P.size - i := by
  unfold sfx
  rw [ByteArray.size_extract]
  omega
theorem sfx_list (P : ByteArray) (i : Nat) : (sfx P i).data.toList = P.data.toList.drop i := by
  unfold sfx
  rw [list_extract, List.take_of_length_le]
  rw [List.length_drop, len_data]
  omega
theorem sfx_zero (P : ByteArray) : sfx P 0 = P := bytes_inj (by rw [sfx_list]; rfl)
theorem sfx_extract (P : ByteArray) (i j : Nat) (hj : i + j ≤ P.size) : (sfx P i).extract j (sfx P i).size = sfx P (i + j) := by
  refine bytes_inj ?_
  have : (sfx P i).extract j (sfx P i).size = sfx (sfx P i) j := rfl
  rw [this, sfx_list, sfx_list, sfx_list, List.drop_drop]
theorem bt_u8 (s : ByteArray) (i : Nat) (h : i < s.size) : ∃ u : UInt8, s.data.toList[i]? = some u ∧ bt s (i : Int) = (u.toNat : Int) :=
  ⟨_, List.getElem?_eq_getElem (by rw [len_data]; exact h), bt_list s i h⟩
theorem cutI_at (P : ByteArray) (p e : Nat) (hp : p ≤ e) (he : e < P.size) (hb : bt P (e : Int) = 40) (hno : ∀ x, p ≤ x → x < e → bt P (x : Int) ≠ 40) : cutI (sfx P p) = ((e - p : Nat) : Int) := by
  have hs := sfx_size P p (by omega)
  have hge := (cutI_le (sfx P p)).1
  have h40 : ∀ x, p ≤ x → x < P.size → ((sfx P p).data.toList[x - p]? = some (40 : UInt8) ↔ bt P (x : Int) = 40) := fun x h1 h2 => by
    rw [sfx_list, List.getElem?_drop, show p + (x - p) = x by omega]
    obtain ⟨u, g1, g2⟩ := bt_u8 P x h2
    rw [g1, g2]
    constructor
    · intro h
      rw [Option.some.inj h]
      rfl
    · intro h
      congr 1
      apply UInt8.toNat_inj.1
      show u.toNat = 40
      omega
  rcases Int.lt_or_le (cutI (sfx P p)) 0 with h | h
  · have h1 : cutI (sfx P p) = -1 := by omega
    exact absurd ((h40 e hp he).2 hb) (Lib.indexByte_none h1 (e - p))
  · obtain ⟨o, ho⟩ : ∃ o : Nat, cutI (sfx P p) = o := ⟨(cutI (sfx P p)).toNat, by omega⟩
    have hle := (cutI_le (sfx P p)).2
    rw [ho] at hle ⊢
    obtain ⟨g1, g2⟩ := Lib.indexByte_some (show Lib.indexByte (sfx P p).data.toList 40 = (o : Int) from ho)
    have q1 : bt P ((p + o : Nat) : Int) = 40 := (h40 (p + o) (by omega) (by omega)).1 (by rw [show p + o - p = o by omega]; exact g1)
    rcases Nat.lt_trichotomy (p + o) e with h3 | h3 | h3
    · exact absurd q1 (hno (p + o) (by omega) h3)
    · omega
    · exact absurd ((h40 e hp he).2 hb) (g2 (e - p) (by omega))
theorem cutA_at (P : ByteArray) (p e : Nat) (hp : p ≤ e) (he : e ≤ P.size) (h : cutI (sfx P p) = ((e - p : Nat) : Int)) : cutA (sfx P p) = P.extract p e := by
  unfold cutA
  rw [if_pos (by omega), h, Int.toNat_natCast]
  refine bytes_inj ?_
  rw [list_extract, sfx_list, list_extract, List.drop_zero, Nat.sub_zero]
theorem cutB_at (P : ByteArray) (p e : Nat) (hp : p ≤ e) (he : e < P.size) (h : cutI (sfx P p) = ((e - p : Nat) : Int)) : cutB (sfx P p) = sfx P (e + 1) := by
  unfold cutB
  rw [if_pos (by omega), h, show (((e - p : Nat) : Int) + 1).toNat = e - p + 1 by omega, sfx_extract P p (e - p + 1) (by omega), show p + (e - p + 1) = e + 1 by omega]

def cnt (l : List UInt8) (j : Nat) : Nat := l.count (UInt8.ofNat (97 + j))
def cnts (l : List UInt8) (n : Nat) : List Int := (List.range n).map fun j => ((cnt l j : Nat) : Int)
theorem cnts_len (l : List UInt8) (n : Nat) : (cnts l n).length = n := by simp [cnts]
theorem cnts_get (l : List UInt8) (n j : Nat) (h : j < n) : rd (cnts l n) (j : Int) = ((cnt l j : Nat) : Int) := by
  rw [rd_get _ _ (by rw [cnts_len]; exact h)]
  simp [cnts]
theorem letters (s : ByteArray) (i : Nat) (h : i < 6) : strings_Count.f s ((⟨#[97, 98, 99, 100, 101, 102]⟩ : ByteArray).extract i (i + 1)) = some ((cnt s.data.toList i : Nat) : Int) := by
  match i, h with
  | 0, _ => rfl
  | 1, _ => rfl
  | 2, _ => rfl
  | 3, _ => rfl
  | 4, _ => rfl
  | 5, _ => rfl
theorem impl_cnts_l (n : Nat) (hn : n ≤ 6) (s : ByteArray) (d : Nat) : ∀ (k i : Nat), n - i = d → i ≤ n → d < k → impl_WareCounts.l0 k s (cnts s.data.toList i) (n : Int) (i : Int) = some (cnts s.data.toList n) := by
  induction d with
  | zero =>
    intro k i hd hi hk
    obtain ⟨k, rfl⟩ := succ_of hk
    have : i = n := by omega
    subst this
    simp only [impl_WareCounts.l0, lt_f (Nat.le_refl i), if_false]
  | succ d ih =>
    intro k i hd hi hk
    obtain ⟨k, rfl⟩ := succ_of hk
    have hlt : i < n := by omega
    have e := ih k (i + 1) (by omega) (by omega) (by omega)
    have es : cnts s.data.toList (i + 1) = cnts s.data.toList i ++ [((cnt s.data.toList i : Nat) : Int)] := by simp [cnts, List.range_succ]
    rw [es] at e
    simp only [impl_WareCounts.l0, lt_t hlt, nn_t, if_true, w1 (show i ≤ 140737488355328 by omega)]
    rw [if_pos (by omega), if_pos (by omega), Int.toNat_natCast, Int.toNat_natCast, letters s i (by omega), Option.bind_some, cnts_len, if_pos (by omega), e]
theorem count_v (s : ByteArray) : strings_Count.f s ⟨#[118]⟩ = some ((s.data.toList.count 118 : Nat) : Int) := rfl
theorem count_h (s : ByteArray) : strings_Count.f s ⟨#[104]⟩ = some ((s.data.toList.count 104 : Nat) : Int) := rfl
theorem impl_cuts (s : ByteArray) (hs : s.size ≤ 2000) : impl_CountCutsOf.f s = some (((s.data.toList.count 118 + s.data.toList.count 104 : Nat)) : Int) := by
  have h4 : (s.data.toList.count 118) ≤ s.data.toList.length := List.count_le_length
  have h5 : (s.data.toList.count 104) ≤ s.data.toList.length := List.count_le_length
  have h6 : s.data.toList.length = s.size := rfl
  unfold impl_CountCutsOf.f
  rw [if_neg (by omega), count_v, count_h]
  generalize s.data.toList.count 118 = a at h4
  generalize s.data.toList.count 104 = b at h5
  show some (wrap64 ((a : Int) + (b : Int))) = _
  rw [w64 (by omega) (by omega)]
  simp

/-! A plan's text: it reads back as its value, its letters add up, it has few cuts. -/
def sumw (f : Nat → Int) : Nat → Int
  | 0 => 0
  | n + 1 => sumw f n + f n
theorem sumw_add (f g e : Nat → Int) (n : Nat) (h : ∀ i, i < n → e i = f i + g i) : sumw e n = sumw f n + sumw g n := by
  induction n with
  | zero => rfl
  | succ n ih =>
    simp only [sumw]
    rw [ih (fun i hi => h i (by omega)), h n (by omega)]
    omega
theorem sumw_zero (f : Nat → Int) (n : Nat) (h : ∀ i, i < n → f i = 0) : sumw f n = 0 := by
  induction n with
  | zero => rfl
  | succ n ih =>
    simp only [sumw]
    rw [ih (fun i hi => h i (by omega)), h n (by omega)]
    rfl
theorem sumw_one (f : Nat → Int) (n j : Nat) (hj : j < n) (h : ∀ i, i < n → i ≠ j → f i = 0) : sumw f n = f j := by
  induction n with
  | zero => omega
  | succ n ih =>
    simp only [sumw]
    by_cases e : j = n
    · subst e
      rw [sumw_zero f j (fun i hi => h i (by omega) (by omega))]
      omega
    · rw [ih (by omega) (fun i hi => h i (by omega)), h n (by omega) (fun q => e q.symm)]
      omega
theorem ba_list (x y : ByteArray) : (x ++ y).data.toList = x.data.toList ++ y.data.toList := by
  rw [ByteArray.data_append, Array.toList_append]
theorem head_at {x y : ByteArray} {c : UInt8} (h : x.data.toList = c :: y.data.toList) : x.size = y.size + 1 ∧ bt x 0 = (c.toNat : Int) ∧ x.extract 1 x.size = y := by
  have hs : x.size = y.size + 1 := by
    rw [← len_data x, ← len_data y, h]
    rfl
  refine ⟨hs, ?_, ?_⟩
  · have := bt_get x 0 (by omega)
    rw [h] at this
    exact this
  · refine bytes_inj ?_
    rw [list_extract, h, hs]
    show List.take (y.size + 1 - 1) (y.data.toList) = _
    rw [Nat.add_sub_cancel, List.take_of_length_le (by rw [len_data]; exact Nat.le_refl _)]
theorem cut_at {x F y : ByteArray} (h : x.data.toList = F.data.toList ++ 40 :: y.data.toList) (hF : ∀ u ∈ F.data.toList, u ≠ 40) : 0 ≤ cutI x ∧ cutA x = F ∧ cutB x = y := by
  have hs : x.size = F.size + 1 + y.size := by
    rw [← len_data x, ← len_data y, ← len_data F, h, List.length_append, List.length_cons]
    omega
  have hg : ∀ i, i < F.size → ∃ u, F.data.toList[i]? = some u ∧ bt x (i : Int) = (u.toNat : Int) := fun i hi => by
    have hi' : i < F.data.toList.length := by rw [len_data]; exact hi
    refine ⟨_, List.getElem?_eq_getElem hi', ?_⟩
    rw [bt_get x i (by omega), h, List.getElem?_append_left hi', List.getElem?_eq_getElem hi']
    rfl
  have hb : bt x (F.size : Int) = 40 := by
    rw [bt_get x F.size (by omega), h, ← len_data F, List.getElem?_append_right (Nat.le_refl _), Nat.sub_self]
    rfl
  have hno : ∀ z, 0 ≤ z → z < F.size → bt x (z : Int) ≠ 40 := fun z _ hz e => by
    obtain ⟨u, u1, u2⟩ := hg z hz
    refine hF u (List.mem_of_getElem? u1) ?_
    apply UInt8.toNat_inj.1
    show u.toNat = 40
    omega
  have hc := cutI_at x 0 F.size (Nat.zero_le _) (by omega) hb hno
  have hA := cutA_at x 0 F.size (Nat.zero_le _) (by omega) hc
  have hB := cutB_at x 0 F.size (Nat.zero_le _) (by omega) hc
  rw [sfx_zero] at hc hA hB
  refine ⟨by rw [hc]; omega, hA.trans ?_, hB.trans ?_⟩
  · refine bytes_inj ?_
    rw [list_extract, h, List.drop_zero, Nat.sub_zero, List.take_append_of_le_length (by rw [len_data]; exact Nat.le_refl _), List.take_of_length_le (by rw [len_data]; exact Nat.le_refl _)]
  · refine bytes_inj ?_
    rw [sfx_list, h, ← List.drop_drop, ← len_data F, List.drop_left]
    rfl
theorem fmt_facts : ∀ n : Fin 16, parseK (fmtK n.1) = some (n.1 : Int) ∧ (fmtK n.1).size ≤ 2 ∧ ((fmtK n.1).data.toList.all fun u => decide (48 ≤ u.toNat ∧ u.toNat ≤ 57)) = true := by decide +kernel
theorem fmt_no (n : Nat) (hn : n < 16) (u : UInt8) (hu : u ∈ (fmtK n).data.toList) : 48 ≤ u.toNat ∧ u.toNat ≤ 57 := by
  have h := (fmt_facts ⟨n, hn⟩).2.2
  exact of_decide_eq_true (List.all_eq_true.1 h u hu)
theorem cut_list (ch : UInt8) (c : Int) (s t r : ByteArray) : (cutK ch c s t ++ r).data.toList = ch :: ((fmtK c.toNat).data.toList ++ 40 :: (s.data.toList ++ (t.data.toList ++ 41 :: r.data.toList))) := by
  unfold cutK
  simp only [ba_list]
  show ((((([ch] ++ _) ++ [40]) ++ _) ++ _) ++ [41]) ++ _ = _
  simp
theorem cut_list0 (ch : UInt8) (c : Int) (s t : ByteArray) : (cutK ch c s t).data.toList = ch :: ((fmtK c.toNat).data.toList ++ 40 :: (s.data.toList ++ (t.data.toList ++ [41]))) := by
  unfold cutK
  simp only [ba_list]
  show (((([ch] ++ _) ++ [40]) ++ _) ++ _) ++ [41] = _
  simp
theorem cutK_size (ch : UInt8) (c : Int) (s t : ByteArray) : (cutK ch c s t).size = (fmtK c.toNat).size + s.size + t.size + 3 := by
  unfold cutK
  simp only [ByteArray.size_append]
  show 1 + _ + 1 + _ + _ + 1 = _
  omega
theorem count_cut (ch : UInt8) (c : Int) (hc : 0 ≤ c ∧ c < 16) (s t : ByteArray) (u : UInt8) (hu : u.toNat ≠ 40 ∧ u.toNat ≠ 41 ∧ 57 < u.toNat) : (cutK ch c s t).data.toList.count u = (if ch = u then 1 else 0) + s.data.toList.count u + t.data.toList.count u := by
  rw [cut_list0]
  have h0 : (fmtK c.toNat).data.toList.count u = 0 := List.count_eq_zero.2 (fun hm => by have := fmt_no c.toNat (by omega) u hm; omega)
  have h1 : (40 : UInt8) ≠ u := fun e => hu.1 (by rw [← e]; rfl)
  have h2 : (41 : UInt8) ≠ u := fun e => hu.2.1 (by rw [← e]; rfl)
  rw [List.count_cons, List.count_append, h0, List.count_cons, List.count_append, List.count_append, List.count_cons, List.count_nil]
  by_cases e : ch = u
  · simp [e, h1, h2]
    omega
  · simp [e, h1, h2]
theorem count_ne {a u : UInt8} (e : a ≠ u) : [a].count u = 0 := by
  rw [List.count_cons, List.count_nil]
  simp [e]
structure PlanQ (ps : List (List Int)) (t : List Int) (a b : Int) (s : ByteArray) : Prop where
  size : s.size + 5 ≤ 8 * (a.toNat * b.toNat)
  dot : s.data.toList = [46] ↔ tv t a b = 0
  pos : s.data.toList ≠ []
  read : ∀ r : ByteArray, ∃ K, ∀ k, K ≤ k → pv.value k ps (s ++ r) a b = some (tv t a b, true, r)
  val : sumw (fun i => ((cnt s.data.toList i : Nat) : Int) * rd (rd_L2 ps (i : Int)) 2) ps.length = tv t a b
  area : sumw (fun i => ((cnt s.data.toList i : Nat) : Int) * (rd (rd_L2 ps (i : Int)) 0 * rd (rd_L2 ps (i : Int)) 1)) ps.length ≤ a * b
  cuts : ((s.data.toList.count 118 + s.data.toList.count 104 : Nat) : Int) + 1 ≤ a * b
theorem toNat_mul {a b : Int} (ha : 1 ≤ a) (hb : 1 ≤ b) : ((a.toNat * b.toNat : Nat) : Int) = a * b := by
  rw [Int.natCast_mul, Int.toNat_of_nonneg (by omega), Int.toNat_of_nonneg (by omega)]
theorem letter_n (i : Nat) (hi : i < 6) : (UInt8.ofNat (97 + i)).toNat = 97 + i := by
  rw [UInt8.toNat_ofNat']
  omega
section
variable {w h : Int} {ps : List (List Int)} {t : List Int} (B : Best w h ps t) (hw : w ≤ 16) (hh : h ≤ 16) (few : ps.length ≤ 6) (three : ∀ i : Int, 0 ≤ i → i < (ps.length : Int) → (rd_L2 ps i).length = 3)
include hw hh few
theorem q_dot (a b : Int) (h1 : 1 ≤ a) (h2 : a ≤ w) (h3 : 1 ≤ b) (h4 : b ≤ h) (z : tv t a b = 0) : PlanQ ps t a b ⟨#[46]⟩ := by
  have hm := mul_small (a := a) (b := b) (by omega) (by omega)
  have hn := toNat_mul h1 h3
  have h46 : ∀ i, i < ps.length → ((cnt [46] i : Nat) : Int) = 0 := fun i hi => by
    have e : (46 : UInt8) ≠ UInt8.ofNat (97 + i) := fun e => by
      have := letter_n i (by omega)
      rw [← e] at this
      have e2 : (46 : UInt8).toNat = 46 := rfl
      omega
    unfold cnt
    generalize UInt8.ofNat (97 + i) = u at e ⊢
    rw [List.count_cons, List.count_nil]
    simp [e]
  refine ⟨by show 1 + 5 ≤ _; omega, ⟨fun _ => z, fun _ => rfl⟩, by simp, fun r => ⟨1, fun k hk => ?_⟩, ?_, ?_, by show ((0 : Nat) : Int) + 1 ≤ _; omega⟩
  · obtain ⟨g1, g2, g3⟩ := head_at (x := (⟨#[46]⟩ : ByteArray) ++ r) (y := r) (c := 46) (by rw [ba_list]; rfl)
    rw [show k = (k - 1) + 1 by omega]
    simp only [pv.value]
    rw [if_neg (by omega), g2, if_pos (by decide), g3, z]
  · rw [z]
    exact sumw_zero _ _ (fun i hi => by
      show ((cnt [46] i : Nat) : Int) * _ = 0
      rw [h46 i hi, Int.zero_mul])
  · rw [sumw_zero _ _ (fun i hi => by
      show ((cnt [46] i : Nat) : Int) * _ = 0
      rw [h46 i hi, Int.zero_mul])]
    omega
include three
theorem q_ware (a b : Int) (h1 : 1 ≤ a) (h2 : a ≤ w) (h3 : 1 ≤ b) (h4 : b ≤ h) (j : Nat) (hj : j < ps.length) (hm : Mat ps j a b) (hv : rd (rd_L2 ps (j : Int)) 2 = tv t a b) (z : tv t a b ≠ 0) : PlanQ ps t a b (wareK j) := by
  have hms := mul_small (a := a) (b := b) (by omega) (by omega)
  have hn := toNat_mul h1 h3
  have hl : (wareK j).data.toList = [UInt8.ofNat (97 + j)] := rfl
  have hj6 := letter_n j (by omega)
  have hc1 : cnt (wareK j).data.toList j = 1 := by
    rw [hl]
    unfold cnt
    rw [List.count_cons, List.count_nil]
    simp
  have hc0 : ∀ i, i < ps.length → i ≠ j → ((cnt (wareK j).data.toList i : Nat) : Int) = 0 := fun i hi hne => by
    rw [hl]
    have e : UInt8.ofNat (97 + j) ≠ UInt8.ofNat (97 + i) := fun e => by
      have := letter_n i (by omega)
      rw [← e] at this
      omega
    unfold cnt
    rw [count_ne e]
    rfl
  refine ⟨by show 1 + 5 ≤ _; omega, ⟨fun e => ?_, fun e => absurd e z⟩, by rw [hl]; simp, fun r => ⟨1, fun k hk => ?_⟩, ?_, ?_, ?_⟩
  · rw [hl] at e
    injection e with e _
    rw [e] at hj6
    have e2 : (46 : UInt8).toNat = 46 := rfl
    omega
  · obtain ⟨g1, g2, g3⟩ := head_at (x := wareK j ++ r) (y := r) (c := UInt8.ofNat (97 + j)) (by rw [ba_list]; rfl)
    rw [hj6] at g2
    rw [show k = (k - 1) + 1 by omega]
    simp only [pv.value]
    have e97 : ((97 + j : Nat) : Int) - 97 = (j : Int) := by omega
    rw [if_neg (by omega), g2, if_neg (by omega), if_neg (by omega), if_neg (by omega), e97, if_pos ⟨by omega, by omega⟩, if_pos (three j (by omega) (by omega)), g3, hv, decide_eq_true hm.1, decide_eq_true hm.2]
    rfl
  · rw [sumw_one _ _ j hj (fun i hi hne => by
      show ((cnt (wareK j).data.toList i : Nat) : Int) * _ = 0
      rw [hc0 i hi hne, Int.zero_mul])]
    show ((cnt (wareK j).data.toList j : Nat) : Int) * _ = _
    rw [hc1, hv]
    omega
  · rw [sumw_one _ _ j hj (fun i hi hne => by
      show ((cnt (wareK j).data.toList i : Nat) : Int) * _ = 0
      rw [hc0 i hi hne, Int.zero_mul])]
    show ((cnt (wareK j).data.toList j : Nat) : Int) * _ ≤ _
    rw [hc1, hm.1, hm.2]
    omega
  · have e1 : UInt8.ofNat (97 + j) ≠ 118 := fun e => by
      rw [e] at hj6
      have e2 : (118 : UInt8).toNat = 118 := rfl
      omega
    have e2 : UInt8.ofNat (97 + j) ≠ 104 := fun e => by
      rw [e] at hj6
      have e2 : (104 : UInt8).toNat = 104 := rfl
      omega
    rw [hl, count_ne e1, count_ne e2]
    omega
omit three
omit hw hh few in
theorem cnt_cut (ch : UInt8) (hch : ch = 118 ∨ ch = 104) (c : Int) (hc : 0 ≤ c ∧ c < 16) (s1 s2 : ByteArray) (i : Nat) (hi : i < 6) : ((cnt (cutK ch c s1 s2).data.toList i : Nat) : Int) = ((cnt s1.data.toList i : Nat) : Int) + ((cnt s2.data.toList i : Nat) : Int) := by
  have hl := letter_n i hi
  unfold cnt
  rw [count_cut ch c hc s1 s2 (UInt8.ofNat (97 + i)) (by omega), if_neg (fun e => by
    rw [← e] at hl
    rcases hch with q | q
    · rw [q] at hl
      have e2 : (118 : UInt8).toNat = 118 := rfl
      omega
    · rw [q] at hl
      have e2 : (104 : UInt8).toNat = 104 := rfl
      omega)]
  omega
include B
/-- A cut's text out of its parts' texts. -/
theorem q_cut (x : Bool) (ch : UInt8) (hch : ch = if x = true then 118 else 104) (a b c a1 b1 a2 b2 : Int) (h1 : 1 ≤ a) (h2 : a ≤ w) (h3 : 1 ≤ b) (h4 : b ≤ h) (hc : 1 ≤ c ∧ c < (if x = true then a else b))
    (d1 : a1 = (if x = true then c else a) ∧ b1 = (if x = true then b else c)) (d2 : a2 = (if x = true then a - c else a) ∧ b2 = (if x = true then b else b - c)) (z : tv t a b ≠ 0) (hv : tv t a1 b1 + tv t a2 b2 = tv t a b) (s1 s2 : ByteArray) (Q1 : PlanQ ps t a1 b1 s1) (Q2 : PlanQ ps t a2 b2 s2) : PlanQ ps t a b (cutK ch c s1 s2) := by
  have hms := mul_small (a := a) (b := b) (by omega) (by omega)
  have hside : (if x = true then a else b) ≤ 16 := by cases x <;> simp <;> omega
  have hr : (1 ≤ a1 ∧ a1 ≤ 16) ∧ (1 ≤ b1 ∧ b1 ≤ 16) ∧ (1 ≤ a2 ∧ a2 ≤ 16) ∧ (1 ≤ b2 ∧ b2 ≤ 16) ∧ a1 * b1 + a2 * b2 = a * b := by
    cases x
    · simp only [Bool.false_eq_true, if_false] at hc d1 d2
      obtain ⟨rfl, rfl⟩ := d1
      obtain ⟨rfl, rfl⟩ := d2
      refine ⟨by omega, by omega, by omega, by omega, ?_⟩
      rw [← Int.mul_add]; congr 1; omega
    · simp only [if_true] at hc d1 d2
      obtain ⟨rfl, rfl⟩ := d1
      obtain ⟨rfl, rfl⟩ := d2
      refine ⟨by omega, by omega, by omega, by omega, ?_⟩
      rw [← Int.add_mul]; congr 1; omega
  obtain ⟨r1, r2, r3, r4, r5⟩ := hr
  have n0 := toNat_mul h1 h3
  have n1 := toNat_mul r1.1 r2.1
  have n2 := toNat_mul r3.1 r4.1
  have hch2 : ch = 118 ∨ ch = 104 := by cases x <;> simp at hch <;> simp [hch]
  have hc16 : 0 ≤ c ∧ c < 16 := by omega
  obtain ⟨f1, f2, _⟩ := fmt_facts ⟨c.toNat, by omega⟩
  have f1 : parseK (fmtK c.toNat) = some ((c.toNat : Nat) : Int) := f1
  have f2 : (fmtK c.toNat).size ≤ 2 := f2
  rw [Int.toNat_of_nonneg hc16.1] at f1
  refine ⟨by rw [cutK_size]; have := Q1.size; have := Q2.size; omega, ⟨fun e => ?_, fun e => absurd e z⟩, by rw [cut_list0]; simp, fun r => ?_, ?_, ?_, ?_⟩
  · rw [cut_list0] at e
    injection e with e _
    rw [e] at hch2
    exact absurd hch2 (by decide)
  · obtain ⟨K2, q2⟩ := Q2.read ((⟨#[41]⟩ : ByteArray) ++ r)
    obtain ⟨K1, q1⟩ := Q1.read (s2 ++ ((⟨#[41]⟩ : ByteArray) ++ r))
    have l41 : ((⟨#[41]⟩ : ByteArray) ++ r).data.toList = 41 :: r.data.toList := by rw [ba_list]; rfl
    obtain ⟨p1, _, p3⟩ := head_at l41
    have hpre : Lib.hasPrefix ((⟨#[41]⟩ : ByteArray) ++ r).data.toList [41] = true := by
      rw [l41]
      unfold Lib.hasPrefix
      simp [List.isPrefixOf]
    obtain ⟨y0, hy0⟩ : ∃ y : ByteArray, y = fmtK c.toNat ++ ((⟨#[40]⟩ : ByteArray) ++ (s1 ++ (s2 ++ ((⟨#[41]⟩ : ByteArray) ++ r)))) := ⟨_, rfl⟩
    have ly : y0.data.toList = (fmtK c.toNat).data.toList ++ 40 :: (s1 ++ (s2 ++ ((⟨#[41]⟩ : ByteArray) ++ r))).data.toList := by
      rw [hy0, ba_list, ba_list]
      rfl
    obtain ⟨g1, g2, g3⟩ := cut_at ly (fun u hu e => by
      have := fmt_no c.toNat (by omega) u hu
      rw [e] at this
      have e2 : (40 : UInt8).toNat = 40 := rfl
      omega)
    obtain ⟨k1, k2, k3⟩ := head_at (x := cutK ch c s1 s2 ++ r) (y := y0) (c := ch) (by
      rw [cut_list, ly, ba_list, ba_list, l41])
    have hw64 : wrap64 (tv t a1 b1 + tv t a2 b2) = tv t a b := by
      rw [hv]
      have := (B.full a b h1 h2 h3 h4).lo
      exact w64 (by omega) (by omega)
    have hd2 : ∀ v : Int, 1 ≤ v → v ≤ 16 → wrap64 (v - c) = v - c := fun v v1 v2 => w64 (by omega) (by omega)
    have C : ∀ k, K1 + K2 ≤ k → pv.cut (k + 1) ps y0 a b x = some (tv t a b, true, r) := fun k hk => by
      have hg : (parseK (cutA y0)).getD 0 = c := by rw [g2, f1]; rfl
      simp only [pv.cut, hg, g3]
      rw [if_pos ⟨⟨g1, by rw [g2, f1]; rfl⟩, hc⟩]
      have e1 := q1 k (by omega)
      have e2 := q2 k (by omega)
      rw [d1.1, d1.2] at e1
      rw [e1, Option.bind_some, if_pos rfl]
      have e3 : pv.value k ps (s2 ++ ((⟨#[41]⟩ : ByteArray) ++ r)) (if x = true then wrap64 (a - c) else a) (if x = true then b else wrap64 (b - c)) = some (tv t a2 b2, true, (⟨#[41]⟩ : ByteArray) ++ r) := by
        rw [← e2, d2.1, d2.2, hd2 a (by omega) (by omega), hd2 b (by omega) (by omega)]
      rw [e3, Option.bind_some, if_pos ⟨rfl, hpre⟩, ← d1.1, ← d1.2, hw64]
      exact congrArg (fun z => some (tv t a b, true, z)) p3
    refine ⟨K1 + K2 + 2, fun k hk => ?_⟩
    have hC := C (k - 2) (by omega)
    rw [show k - 2 + 1 = k - 1 by omega] at hC
    rw [show k = (k - 1) + 1 by omega]
    simp only [pv.value]
    rw [if_neg (by omega), k2, k3]
    cases x
    · have e : ch = 104 := hch
      rw [e, if_neg (by decide), if_neg (by decide), if_pos (by decide)]
      exact hC
    · have e : ch = 118 := hch
      rw [e, if_neg (by decide), if_pos (by decide)]
      exact hC
  · rw [sumw_add (fun i => ((cnt s1.data.toList i : Nat) : Int) * rd (rd_L2 ps (i : Int)) 2) (fun i => ((cnt s2.data.toList i : Nat) : Int) * rd (rd_L2 ps (i : Int)) 2) _ _ (fun i hi => by
      show ((cnt (cutK ch c s1 s2).data.toList i : Nat) : Int) * _ = _
      rw [cnt_cut ch hch2 c hc16 s1 s2 i (by omega), Int.add_mul]), Q1.val, Q2.val, hv]
  · rw [sumw_add (fun i => ((cnt s1.data.toList i : Nat) : Int) * (rd (rd_L2 ps (i : Int)) 0 * rd (rd_L2 ps (i : Int)) 1)) (fun i => ((cnt s2.data.toList i : Nat) : Int) * (rd (rd_L2 ps (i : Int)) 0 * rd (rd_L2 ps (i : Int)) 1)) _ _ (fun i hi => by
      show ((cnt (cutK ch c s1 s2).data.toList i : Nat) : Int) * _ = _
      rw [cnt_cut ch hch2 c hc16 s1 s2 i (by omega), Int.add_mul])]
    have := Q1.area
    have := Q2.area
    omega
  · have e118 : (118 : UInt8).toNat = 118 := rfl
    have e104 : (104 : UInt8).toNat = 104 := rfl
    rw [count_cut ch c hc16 s1 s2 118 (by omega), count_cut ch c hc16 s1 s2 104 (by omega)]
    have g1 := Q1.cuts
    have g2 := Q2.cuts
    have hone : (if ch = 118 then 1 else 0) + (if ch = 104 then 1 else 0) = 1 := by
      rcases hch2 with q | q
      · rw [q]; decide
      · rw [q]; decide
    omega
end

def Pl (f : Nat → Option ByteArray) (Q : ByteArray → Prop) : Prop := ∃ (K : Nat) (s : ByteArray), Q s ∧ ∀ k, K ≤ k → f k = some s
theorem Pl.step {f f' : Nat → Option ByteArray} {Q : ByteArray → Prop} (h : Pl f Q) (hf : ∀ k, f' (k + 1) = f k) : Pl f' Q := by
  obtain ⟨K, s, h1, h2⟩ := h
  refine ⟨K + 1, s, h1, fun k hk => ?_⟩
  obtain ⟨m, rfl⟩ := succ_of (show K < k by omega)
  rw [hf]
  exact h2 m (by omega)
section
variable (ps : List (List Int)) (xs : List Int)
theorem pl_ware (few : ps.length ≤ 6) (three : ∀ i : Int, 0 ≤ i → i < (ps.length : Int) → (rd_L2 ps i).length = 3) (a b n : Int) (Q : ByteArray → Prop)
    (hit : ∀ j : Nat, j < ps.length → Mat ps j a b → rd (rd_L2 ps (j : Int)) 2 = n → Q (wareK j))
    (next : (∀ j : Nat, j < ps.length → ¬ (Mat ps j a b ∧ rd (rd_L2 ps (j : Int)) 2 = n)) → Pl (fun k => bps.cv k xs ps a b n 1) Q) (d : Nat) :
    ∀ i : Nat, ps.length - i = d → i ≤ ps.length → (∀ j : Nat, j < i → ¬ (Mat ps j a b ∧ rd (rd_L2 ps (j : Int)) 2 = n)) → Pl (fun k => bps.ware k xs ps a b n (i : Int)) Q := by
  induction d with
  | zero =>
    intro i hd hi hno
    refine (next (fun j hj => hno j (by omega))).step (fun k => ?_)
    simp only [bps.ware]
    rw [if_neg (by omega)]
  | succ d ih =>
    intro i hd hi hno
    have h3 := three i (by omega) (by omega)
    have e1 : ((i : Int) < (ps.length : Int)) = True := eq_true (by omega)
    have e2 : (0 ≤ (i : Int)) = True := eq_true (by omega)
    have e2b : ((i : Int) < 6) = True := eq_true (by omega)
    have ew := w1 (show i ≤ 140737488355328 by omega)
    by_cases m : Mat ps i a b ∧ rd (rd_L2 ps (i : Int)) 2 = n
    · refine ⟨1, wareK i, hit i (by omega) m.1 m.2, fun k hk => ?_⟩
      obtain ⟨k, rfl⟩ := succ_of (show 0 < k by omega)
      have m1 := m.1.1
      have m2 := m.1.2
      simp only [bps.ware, e1, e2, e2b, h3, m1, m2, m.2, if_true, and_true, Int.toNat_natCast]
    · refine (ih (i + 1) (by omega) (by omega) (fun j hj => ?_)).step (fun k => ?_)
      · by_cases e : j = i
        · rw [e]; exact m
        · exact hno j (by omega)
      · simp only [bps.ware, e1, e2, e2b, h3, ew, if_true, and_true]
        by_cases m1 : rd (rd_L2 ps (i : Int)) 0 = a
        · rw [if_pos m1]
          by_cases m2 : rd (rd_L2 ps (i : Int)) 1 = b
          · rw [if_pos m2, if_neg (fun e => m ⟨⟨m1, m2⟩, e⟩)]
          · rw [if_neg m2]
        · rw [if_neg m1]
theorem pl_cv (a b n : Int) (ha : 1 ≤ a ∧ a ≤ 16) (hb : 1 ≤ b ∧ b ≤ 16) (R1 R2 : Int → ByteArray → Prop) (Q : ByteArray → Prop)
    (rec1 : ∀ c : Int, 1 ≤ c → c < a → Pl (fun k => bps.plan k xs ps c b) (R1 c)) (rec2 : ∀ c : Int, 1 ≤ c → c < a → Pl (fun k => bps.plan k xs ps (a - c) b) (R2 c))
    (sz1 : ∀ c s, R1 c s → s.size < 100000) (sz2 : ∀ c s, R2 c s → s.size < 100000)
    (hit : ∀ (c : Int) (s1 s2 : ByteArray), 1 ≤ c → c < a → wrap64 (tv xs c b + tv xs (a - c) b) = n → R1 c s1 → R2 c s2 → Q (cutK 118 c s1 s2))
    (next : (∀ c : Int, 1 ≤ c → c < a → ¬ wrap64 (tv xs c b + tv xs (a - c) b) = n) → Pl (fun k => bps.ch k xs ps a b n 1) Q) (d : Nat) :
    ∀ c : Int, (a - c).toNat = d → 1 ≤ c → c ≤ a → (∀ e : Int, 1 ≤ e → e < c → ¬ wrap64 (tv xs e b + tv xs (a - e) b) = n) → Pl (fun k => bps.cv k xs ps a b n c) Q := by
  induction d with
  | zero =>
    intro c hd h1 h2 hno
    refine (next (fun e e1 e2 => hno e e1 (by omega))).step (fun k => ?_)
    simp only [bps.cv]
    rw [if_neg (by omega)]
  | succ d ih =>
    intro c hd h1 h2 hno
    have wbc : wrap64 (a - c) = a - c := w64 (by omega) (by omega)
    have wc1 : wrap64 (c + 1) = c + 1 := w64 (by omega) (by omega)
    have F : ∀ k, bps.cv (k + 1) xs ps a b n c = if wrap64 (tv xs c b + tv xs (a - c) b) = n then ((bps.plan k xs ps c b).bind fun s => (bps.plan k xs ps (a - c) b).bind fun t => if s.size < 100000 ∧ t.size < 100000 then some (cutK 118 c s t) else none) else bps.cv k xs ps a b n (c + 1) := by
      intro k
      simp only [bps.cv]
      rw [if_pos (by omega), wbc, if_pos (by omega), wc1]
      rfl
    by_cases m : wrap64 (tv xs c b + tv xs (a - c) b) = n
    · obtain ⟨K1, s1, q1, p1⟩ := rec1 c h1 (by omega)
      obtain ⟨K2, s2, q2, p2⟩ := rec2 c h1 (by omega)
      refine ⟨K1 + K2 + 1, cutK 118 c s1 s2, hit c s1 s2 h1 (by omega) m q1 q2, fun k hk => ?_⟩
      obtain ⟨k, rfl⟩ := succ_of (show 0 < k by omega)
      have e1 : bps.plan k xs ps c b = some s1 := p1 k (by omega)
      have e2 : bps.plan k xs ps (a - c) b = some s2 := p2 k (by omega)
      show bps.cv (k + 1) xs ps a b n c = _
      rw [F k, if_pos m, e1, Option.bind_some, e2, Option.bind_some, if_pos ⟨sz1 c s1 q1, sz2 c s2 q2⟩]
    · refine (ih (c + 1) (by omega) (by omega) (by omega) (fun e q1 q2 => ?_)).step (fun k => ?_)
      · by_cases ec : e = c
        · rw [ec]; exact m
        · exact hno e q1 (by omega)
      · rw [F k, if_neg m]
theorem pl_ch (a b n : Int) (ha : 1 ≤ a ∧ a ≤ 16) (hb : 1 ≤ b ∧ b ≤ 16) (R1 R2 : Int → ByteArray → Prop) (Q : ByteArray → Prop)
    (rec1 : ∀ c : Int, 1 ≤ c → c < b → Pl (fun k => bps.plan k xs ps a c) (R1 c)) (rec2 : ∀ c : Int, 1 ≤ c → c < b → Pl (fun k => bps.plan k xs ps a (b - c)) (R2 c))
    (sz1 : ∀ c s, R1 c s → s.size < 100000) (sz2 : ∀ c s, R2 c s → s.size < 100000)
    (hit : ∀ (c : Int) (s1 s2 : ByteArray), 1 ≤ c → c < b → wrap64 (tv xs a c + tv xs a (b - c)) = n → R1 c s1 → R2 c s2 → Q (cutK 104 c s1 s2))
    (next : ∃ c : Int, 1 ≤ c ∧ c < b ∧ wrap64 (tv xs a c + tv xs a (b - c)) = n) (d : Nat) :
    ∀ c : Int, (b - c).toNat = d → 1 ≤ c → c ≤ b → (∀ e : Int, 1 ≤ e → e < c → ¬ wrap64 (tv xs a e + tv xs a (b - e)) = n) → Pl (fun k => bps.ch k xs ps a b n c) Q := by
  induction d with
  | zero =>
    intro c hd h1 h2 hno
    obtain ⟨e, e1, e2, e3⟩ := next
    exact absurd e3 (hno e e1 (by omega))
  | succ d ih =>
    intro c hd h1 h2 hno
    have wbc : wrap64 (b - c) = b - c := w64 (by omega) (by omega)
    have wc1 : wrap64 (c + 1) = c + 1 := w64 (by omega) (by omega)
    have F : ∀ k, bps.ch (k + 1) xs ps a b n c = if wrap64 (tv xs a c + tv xs a (b - c)) = n then ((bps.plan k xs ps a c).bind fun s => (bps.plan k xs ps a (b - c)).bind fun t => if s.size < 100000 ∧ t.size < 100000 then some (cutK 104 c s t) else none) else bps.ch k xs ps a b n (c + 1) := by
      intro k
      simp only [bps.ch]
      rw [if_pos (by omega), wbc, if_pos (by omega), wc1]
      rfl
    by_cases m : wrap64 (tv xs a c + tv xs a (b - c)) = n
    · obtain ⟨K1, s1, q1, p1⟩ := rec1 c h1 (by omega)
      obtain ⟨K2, s2, q2, p2⟩ := rec2 c h1 (by omega)
      refine ⟨K1 + K2 + 1, cutK 104 c s1 s2, hit c s1 s2 h1 (by omega) m q1 q2, fun k hk => ?_⟩
      obtain ⟨k, rfl⟩ := succ_of (show 0 < k by omega)
      have e1 : bps.plan k xs ps a c = some s1 := p1 k (by omega)
      have e2 : bps.plan k xs ps a (b - c) = some s2 := p2 k (by omega)
      show bps.ch (k + 1) xs ps a b n c = _
      rw [F k, if_pos m, e1, Option.bind_some, e2, Option.bind_some, if_pos ⟨sz1 c s1 q1, sz2 c s2 q2⟩]
    · refine (ih (c + 1) (by omega) (by omega) (by omega) (fun e q1 q2 => ?_)).step (fun k => ?_)
      · by_cases ec : e = c
        · rw [ec]; exact m
        · exact hno e q1 (by omega)
      · rw [F k, if_neg m]
end
theorem q_small {ps : List (List Int)} {t : List Int} {a b : Int} {s : ByteArray} (q : PlanQ ps t a b s) (ha : a ≤ 16) (hb : b ≤ 16) : s.size < 100000 := by
  have h1 := q.size
  have h2 : a.toNat * b.toNat ≤ 16 * 16 := Nat.mul_le_mul (by omega) (by omega)
  omega
theorem plan_ex {w h : Int} {ps : List (List Int)} {t : List Int} (B : Best w h ps t) (hw : w ≤ 16) (hh : h ≤ 16) (few : ps.length ≤ 6) (three : ∀ i : Int, 0 ≤ i → i < (ps.length : Int) → (rd_L2 ps i).length = 3) (m : Nat) :
    ∀ a b : Int, a.toNat + b.toNat ≤ m → 1 ≤ a → a ≤ w → 1 ≤ b → b ≤ h → Pl (fun k => bps.plan k t ps a b) (PlanQ ps t a b) := by
  induction m with
  | zero => intro a b hm h1 h2 h3 h4; omega
  | succ m ih =>
    intro a b hm h1 h2 h3 h4
    have F : ∀ k, bps.plan (k + 1) t ps a b = if tv t a b = 0 then some ⟨#[46]⟩ else bps.ware k t ps a b (tv t a b) 0 := by
      intro k
      simp only [bps.plan]
      rw [if_pos ⟨by omega, by omega⟩]
      rfl
    by_cases z : tv t a b = 0
    · refine ⟨1, ⟨#[46]⟩, q_dot hw hh few a b h1 h2 h3 h4 z, fun k hk => ?_⟩
      obtain ⟨k, rfl⟩ := succ_of (show 0 < k by omega)
      show bps.plan (k + 1) t ps a b = _
      rw [F, if_pos z]
    · have hbig : ∀ x y : Int, 1 ≤ x → x ≤ w → 1 ≤ y → y ≤ h → 0 ≤ tv t x y ∧ tv t x y ≤ 256000 := fun x y q1 q2 q3 q4 => by
        have e1 := (B.full x y q1 q2 q3 q4).lo
        have e2 := mul_small (a := x) (b := y) (by omega) (by omega)
        omega
      have hv : ∀ c : Int, 1 ≤ c → c < a → wrap64 (tv t c b + tv t (a - c) b) = tv t c b + tv t (a - c) b := fun c c1 c2 => by
        have e1 := hbig c b c1 (by omega) h3 h4
        have e2 := hbig (a - c) b (by omega) (by omega) h3 h4
        exact w64 (by omega) (by omega)
      have hh2 : ∀ c : Int, 1 ≤ c → c < b → wrap64 (tv t a c + tv t a (b - c)) = tv t a c + tv t a (b - c) := fun c c1 c2 => by
        have e1 := hbig a c h1 h2 c1 (by omega)
        have e2 := hbig a (b - c) h1 h2 (by omega) (by omega)
        exact w64 (by omega) (by omega)
      refine (pl_ware ps t few three a b (tv t a b) (PlanQ ps t a b) (fun j hj hm hr => q_ware hw hh few three a b h1 h2 h3 h4 j hj hm hr z) (fun no1 => ?_) _ 0 rfl (by omega) (fun j hj => by omega)).step (fun k => ?_)
      · refine pl_cv ps t a b _ (by omega) (by omega) (fun c s => (1 ≤ c ∧ c < a) ∧ PlanQ ps t c b s) (fun c s => (1 ≤ c ∧ c < a) ∧ PlanQ ps t (a - c) b s) _
          (fun c c1 c2 => by obtain ⟨K, s, q, p⟩ := ih c b (by omega) c1 (by omega) h3 h4; exact ⟨K, s, ⟨⟨c1, c2⟩, q⟩, p⟩)
          (fun c c1 c2 => by obtain ⟨K, s, q, p⟩ := ih (a - c) b (by omega) (by omega) (by omega) h3 h4; exact ⟨K, s, ⟨⟨c1, c2⟩, q⟩, p⟩)
          (fun c s q => q_small q.2 (by omega) (by omega)) (fun c s q => q_small q.2 (by omega) (by omega))
          (fun c s1 s2 c1 c2 e q1 q2 => by
            rw [hv c c1 c2] at e
            exact q_cut B hw hh few true 118 rfl a b c c b (a - c) b h1 h2 h3 h4 ⟨c1, c2⟩ ⟨rfl, rfl⟩ ⟨rfl, rfl⟩ z e s1 s2 q1.2 q2.2)
          (fun no2 => ?_) _ 1 rfl (by omega) (by omega) (fun e e1 e2 => by omega)
        refine pl_ch ps t a b _ (by omega) (by omega) (fun c s => (1 ≤ c ∧ c < b) ∧ PlanQ ps t a c s) (fun c s => (1 ≤ c ∧ c < b) ∧ PlanQ ps t a (b - c) s) _
          (fun c c1 c2 => by obtain ⟨K, s, q, p⟩ := ih a c (by omega) h1 h2 c1 (by omega); exact ⟨K, s, ⟨⟨c1, c2⟩, q⟩, p⟩)
          (fun c c1 c2 => by obtain ⟨K, s, q, p⟩ := ih a (b - c) (by omega) h1 h2 (by omega) (by omega); exact ⟨K, s, ⟨⟨c1, c2⟩, q⟩, p⟩)
          (fun c s q => q_small q.2 (by omega) (by omega)) (fun c s q => q_small q.2 (by omega) (by omega))
          (fun c s1 s2 c1 c2 e q1 q2 => by
            rw [hh2 c c1 c2] at e
            exact q_cut B hw hh few false 104 rfl a b c a c a (b - c) h1 h2 h3 h4 ⟨c1, c2⟩ ⟨rfl, rfl⟩ ⟨rfl, rfl⟩ z e s1 s2 q1.2 q2.2)
          ?_ _ 1 rfl (by omega) (by omega) (fun e e1 e2 => by omega)
        rcases (B.full a b h1 h2 h3 h4).src with q | ⟨j, q1, q2, q3⟩ | ⟨c, q1, q2, q3⟩ | ⟨c, q1, q2, q3⟩
        · exact absurd q z
        · exact absurd ⟨q2, q3⟩ (no1 j q1)
        · exact absurd ((hv c q1 q2).trans q3) (no2 c q1 q2)
        · exact ⟨c, q1, q2, (hh2 c q1 q2).trans q3⟩
      · rw [F, if_neg z]
        rfl

theorem wrap_i64 (n : Int) : IntKind.i64.wrap n = wrap64 n := by
  simp only [IntKind.wrap, IntKind.bits, IntKind.signed, wrap64, Bool.true_and, decide_eq_true_eq, ge_iff_le]
  split <;> omega
theorem ofInt_i64 (a : Nat) (ha : a < 18446744073709551616) : (BitVec.ofInt 64 (a : Int)).toNat = a := by
  rw [BitVec.ofInt_natCast, BitVec.toNat_ofNat]; exact Nat.mod_eq_of_lt (by omega)
theorem i64_and (a b : Nat) (ha : a < 9223372036854775808) (hb : b < 9223372036854775808) : Go.bits .and .i64 (a : Int) (b : Int) = ((a &&& b : Nat) : Int) := by
  have hx : a &&& b < 2 ^ 63 := Nat.and_lt_two_pow _ (by omega)
  show IntKind.i64.wrap ((BitVec.ofInt 64 (a : Int) &&& BitVec.ofInt 64 (b : Int)).toNat : Int) = _
  rw [BitVec.toNat_and, ofInt_i64 a (by omega), ofInt_i64 b (by omega), wrap_i64, w64 (by omega) (by omega)]
theorem i64_or (a b : Nat) (ha : a < 9223372036854775808) (hb : b < 9223372036854775808) : Go.bits .or .i64 (a : Int) (b : Int) = ((a ||| b : Nat) : Int) := by
  have hx : a ||| b < 2 ^ 63 := Nat.or_lt_two_pow (by omega) (by omega)
  show IntKind.i64.wrap ((BitVec.ofInt 64 (a : Int) ||| BitVec.ofInt 64 (b : Int)).toNat : Int) = _
  rw [BitVec.toNat_or, ofInt_i64 a (by omega), ofInt_i64 b (by omega), wrap_i64, w64 (by omega) (by omega)]
/-- a &^ b -/
def andn (a b : Nat) : Nat := a &&& (18446744073709551615 - b)
theorem i64_andNot (a b : Nat) (ha : a < 9223372036854775808) (hb : b < 9223372036854775808) : Go.bits .andNot .i64 (a : Int) (b : Int) = ((andn a b : Nat) : Int) := by
  have hx : andn a b ≤ a := Nat.and_le_left
  show IntKind.i64.wrap ((BitVec.ofInt 64 (a : Int) &&& ~~~BitVec.ofInt 64 (b : Int)).toNat : Int) = _
  rw [BitVec.toNat_and, BitVec.toNat_not, ofInt_i64 a (by omega), ofInt_i64 b (by omega), wrap_i64]
  have e : 2 ^ 64 - 1 - b = 18446744073709551615 - b := by omega
  rw [e, w64]
  · rfl
  · omega
  · have : a &&& (18446744073709551615 - b) ≤ a := Nat.and_le_left
    omega
theorem testBit_andn (a b i : Nat) (ha : a < 18446744073709551616) (hb : b < 18446744073709551616) : (andn a b).testBit i = (a.testBit i && !b.testBit i) := by
  unfold andn
  rw [Nat.testBit_and]
  have := Nat.testBit_two_pow_sub_succ (n := 64) (x := b) (by omega) i
  rw [show (18446744073709551615 - b) = 2 ^ 64 - (b + 1) by omega, this]
  by_cases h : i < 64
  · simp [h]
  · have : a.testBit i = false := Nat.testBit_lt_two_pow (Nat.lt_of_lt_of_le ha (by rw [show 18446744073709551616 = 2 ^ 64 by rfl]; exact Nat.pow_le_pow_right (by omega) (by omega)))
    simp [this]
theorem shl_one (n : Nat) (hn : n ≤ 62) : shl .i64 1 (n : Int) = ((2 ^ n : Nat) : Int) := by
  have h1 : (2 : Nat) ^ n ≤ 2 ^ 62 := Nat.pow_le_pow_right (by omega) hn
  unfold shl
  rw [Int.toNat_natCast, show IntKind.i64.bits = 64 from rfl, Nat.min_eq_left (by omega), wrap_i64, w64]
  · simp
  · have : (0 : Int) ≤ 1 * 2 ^ n := by rw [Int.one_mul]; exact Int.pow_nonneg (by omega)
    omega
  · have : (1 * 2 ^ n : Int) = ((2 ^ n : Nat) : Int) := by simp
    rw [this]
    omega

set_option linter.unusedSectionVars false
theorem and255 (v : Int) : 0 ≤ Go.bits .and .i64 v 255 ∧ Go.bits .and .i64 v 255 ≤ 255 := by
  have h : (BitVec.ofInt 64 v &&& BitVec.ofInt 64 255).toNat ≤ 255 := by
    rw [BitVec.toNat_and]
    exact Nat.le_trans Nat.and_le_right (by decide)
  have e : Go.bits .and .i64 v 255 = (((BitVec.ofInt 64 v &&& BitVec.ofInt 64 255).toNat : Nat) : Int) := by
    show IntKind.i64.wrap ((BitVec.ofInt 64 v &&& BitVec.ofInt 64 255).toNat : Int) = _
    rw [wrap_i64, w64 (by omega) (by omega)]
  rw [e]
  omega
section
variable {b : List Int} (hb : b.length ≤ 1048576)
include hb
theorem byte_f (p h : Int) (hp : 0 ≤ p ∧ p ≤ (b.length : Int)) : ∃ x p' h', spec_l01Byte.f b p h = some (x, p', h') ∧ (0 ≤ x ∧ x ≤ 255) ∧ 0 ≤ p' ∧ p' ≤ (b.length : Int) := by
  unfold spec_l01Byte.f
  by_cases c : p < (b.length : Int)
  · rw [if_pos c, if_pos hp.1]
    refine ⟨_, _, _, rfl, and255 _, ?_⟩
    rw [w64 (by omega) (by omega)]
    omega
  · rw [if_neg c]
    exact ⟨_, _, _, rfl, and255 _, hp⟩
theorem below_f (p h n : Int) (hp : 0 ≤ p ∧ p ≤ (b.length : Int)) (hn : 1 ≤ n ∧ n ≤ 256) : ∃ x p' h', spec_l01Below.f b p h n = some (x, p', h') ∧ (0 ≤ x ∧ x < n) ∧ 0 ≤ p' ∧ p' ≤ (b.length : Int) := by
  obtain ⟨x, p', h', e, hx, hp'⟩ := byte_f hb p h hp
  refine ⟨Int.tmod x n, p', h', ?_, ⟨Int.tmod_nonneg _ hx.1, Int.tmod_lt_of_pos _ (by omega)⟩, hp'⟩
  unfold spec_l01Below.f
  rw [if_neg (by omega), if_pos hn.2, e]
  simp only [Option.bind_some]
  rw [if_neg (by omega)]
theorem new_l (d : Nat) : ∀ (i : Nat) (h : Int), b.length - i = d → i ≤ b.length → ∃ h', Ev (fun k => spec_l01New.l0 k b h (i : Int)) (b, 0, h') := by
  induction d with
  | zero =>
    intro i h hd hi
    refine ⟨h, Ev.step (f := fun _ => some (b, 0, h)) (fun k => ?_) (Ev.now _)⟩
    simp only [spec_l01New.l0, lt_f (show b.length ≤ i by omega), if_false]
  | succ d ih =>
    intro i h hd hi
    have hlt : i < b.length := by omega
    by_cases c : (i : Int) < 4000
    · obtain ⟨h', H⟩ := ih (i + 1) (Go.bits .and .i64 (wrap64 ((wrap64 ((wrap64 (h * 179)) + (wrap64 (rd b (i : Int))))) + 7)) 1073741823) (by omega) (by omega)
      refine ⟨h', Ev.step (fun k => ?_) H⟩
      simp only [spec_l01New.l0, lt_t hlt, nn_t, if_true, c, w1 (show i ≤ 140737488355328 by omega)]
    · refine ⟨h, Ev.step (f := fun _ => some (b, 0, h)) (fun k => ?_) (Ev.now _)⟩
      simp only [spec_l01New.l0, lt_t hlt, if_true, c, if_false]
theorem l31_l (n : Nat) (hn : n ≤ 100) (d : Nat) : ∀ (i : Nat) (p h : Int), n - i = d → i ≤ n → (0 ≤ p ∧ p ≤ (b.length : Int)) → ∃ p' h', Ev (fun k => spec_l31New.l0 k (n : Int) b p h (i : Int)) (b, p', h') ∧ 0 ≤ p' ∧ p' ≤ (b.length : Int) := by
  induction d with
  | zero =>
    intro i p h hd hi hp
    refine ⟨p, h, Ev.step (f := fun _ => some (b, p, h)) (fun k => ?_) (Ev.now _), hp⟩
    simp only [spec_l31New.l0, lt_f (show n ≤ i by omega), if_false]
  | succ d ih =>
    intro i p h hd hi hp
    have hlt : i < n := by omega
    obtain ⟨x, p1, h1, e, _, hp1⟩ := byte_f hb p h hp
    obtain ⟨p', h', H, hp'⟩ := ih (i + 1) p1 h1 (by omega) (by omega) hp1
    refine ⟨p', h', Ev.step (fun k => ?_) H, hp'⟩
    simp only [spec_l31New.l0, lt_t hlt, if_true, e, Option.bind_some, w1 (show i ≤ 140737488355328 by omega)]
theorem l31_f (n : Nat) (hn : n ≤ 100) : ∃ p' h', Ev (fun k => spec_l31New.f k b (n : Int)) (b, p', h') ∧ 0 ≤ p' ∧ p' ≤ (b.length : Int) := by
  obtain ⟨h0, H0⟩ := new_l hb b.length 0 (wrap64 (2173 + (b.length : Int))) rfl (Nat.zero_le _)
  obtain ⟨p', h', H, hp'⟩ := l31_l hb n hn n 0 0 h0 rfl (Nat.zero_le _) ⟨by omega, by omega⟩
  refine ⟨p', h', ?_, hp'⟩
  unfold spec_l31New.f spec_l01New.f
  exact Ev.bind H0 H
end

def WareS (q : List Int) : Prop := q.length = 3 ∧ (1 ≤ rd q 0 ∧ rd q 0 ≤ 5) ∧ (1 ≤ rd q 1 ∧ rd q 1 ≤ 5) ∧ (0 ≤ rd q 2 ∧ rd q 2 ≤ 100)
section
variable {b : List Int} (hb : b.length ≤ 1048576)
include hb
theorem draw_l (x5 x6 : Int) (m : Nat) : ∀ (L : List (List Int)) (p h : Int), (0 ≤ p ∧ p ≤ (b.length : Int)) → L.length + m ≤ 4 → (∀ q ∈ L, WareS q) → ∃ L' p' h', Ev (fun k => spec_l16Draw.l0 k x5 x6 L (m : Int) b p h) (x5, x6, L', p', h') ∧ L'.length ≤ 4 ∧ ∀ q ∈ L', WareS q := by
  induction m with
  | zero =>
    intro L p h hp hl hL
    refine ⟨L, p, h, Ev.step (f := fun _ => some (x5, x6, L, p, h)) (fun k => ?_) (Ev.now _), by omega, hL⟩
    simp only [spec_l16Draw.l0]
    rw [if_neg (by omega)]
  | succ m ih =>
    intro L p h hp hl hL
    obtain ⟨u, p1, h1, e1, hu, hp1⟩ := below_f hb p h 5 hp (by omega)
    obtain ⟨v, p2, h2, e2, hv, hp2⟩ := below_f hb p1 h1 5 hp1 (by omega)
    obtain ⟨x, p3, h3, e3, hx, hp3⟩ := below_f hb p2 h2 9 hp2 (by omega)
    have hm : 1 ≤ (1 + u) * (1 + v) ∧ (1 + u) * (1 + v) ≤ 25 := by
      have a1 := Int.mul_le_mul (show (1 : Int) ≤ 1 + u by omega) (show (1 : Int) ≤ 1 + v by omega) (by omega) (by omega)
      have a2 := Int.mul_le_mul (show 1 + u ≤ 5 by omega) (show 1 + v ≤ 5 by omega) (by omega) (by omega)
      omega
    have n1 : wrap64 (1 + u) = 1 + u := w64 (by omega) (by omega)
    have n2 : wrap64 (1 + v) = 1 + v := w64 (by omega) (by omega)
    have n3 : wrap64 ((1 + u) * (1 + v)) = (1 + u) * (1 + v) := w64 (by omega) (by omega)
    have n4 : wrap64 ((1 + u) * (1 + v) + x) = (1 + u) * (1 + v) + x := w64 (by omega) (by omega)
    obtain ⟨L', p', h', E, g1, g2⟩ := ih (L ++ [[1 + u, 1 + v, (1 + u) * (1 + v) + x]]) p3 h3 hp3 (by simp; omega) (fun q hq => by
      rcases List.mem_append.1 hq with z | z
      · exact hL q z
      · rw [List.mem_singleton.1 z]
        refine ⟨rfl, ?_, ?_, ?_⟩
        · show 1 ≤ 1 + u ∧ 1 + u ≤ 5; omega
        · show 1 ≤ 1 + v ∧ 1 + v ≤ 5; omega
        · show 0 ≤ (1 + u) * (1 + v) + x ∧ (1 + u) * (1 + v) + x ≤ 100; omega)
    refine ⟨L', p', h', Ev.step (fun k => ?_) E, g1, g2⟩
    simp only [spec_l16Draw.l0]
    rw [if_pos (by omega), e1, Option.bind_some]
    simp only [e2, Option.bind_some, e3, n1, n2, n3, n4]
    rw [if_pos (by omega), w64 (x := ((m + 1 : Nat) : Int) - 1) (by omega) (by omega), show ((m + 1 : Nat) : Int) - 1 = (m : Int) by omega]
theorem plate_draw : ∃ (w h : Int) (l : List (List Int)), Ev (fun k => spec_MakePlate.f k b 0) (w, h, l) ∧ (1 ≤ w ∧ w ≤ 8) ∧ (1 ≤ h ∧ h ≤ 8) ∧ l.length ≤ 4 ∧ ∀ q ∈ l, WareS q := by
  obtain ⟨p, h, H, hp⟩ := l31_f hb 0 (by omega)
  obtain ⟨x, p1, h1, e1, hx, hp1⟩ := below_f hb p h 8 hp (by omega)
  obtain ⟨y, p2, h2, e2, hy, hp2⟩ := below_f hb p1 h1 8 hp1 (by omega)
  obtain ⟨z, p3, h3, e3, hz, hp3⟩ := below_f hb p2 h2 5 hp2 (by omega)
  obtain ⟨m, rfl⟩ := Int.eq_ofNat_of_zero_le hz.1
  obtain ⟨L, p4, h4, E, g1, g2⟩ := draw_l hb (wrap64 (1 + x)) (wrap64 (1 + y)) m [] p3 h3 hp3 (by simp; omega) (fun q hq => by cases hq)
  have n1 : wrap64 (1 + x) = 1 + x := w64 (by omega) (by omega)
  have n2 : wrap64 (1 + y) = 1 + y := w64 (by omega) (by omega)
  refine ⟨1 + x, 1 + y, L, ?_, by omega, by omega, g1, g2⟩
  unfold spec_MakePlate.f
  have H : Ev (fun k => spec_l31New.f k b 0) (b, p, h) := H
  have HD : Ev (fun k => spec_l16Draw.f k b p h) (1 + x, 1 + y, L, p4, h4) := by
    unfold spec_l16Draw.f
    simp only [e1, e2, e3, Option.bind_some]
    rw [n1, n2] at E
    rw [n1, n2]
    exact E
  exact Ev.bind H (Ev.bind HD (Ev.now _))
theorem make_size17 : ∃ t : Int, (1 ≤ t ∧ t ≤ 7) ∧ Ev (fun k => spec_MakeSize.f k b 40 1 7) t := by
  obtain ⟨p, h, H, hp⟩ := l31_f hb 40 (by omega)
  obtain ⟨x, p1, h1, e1, hx1, hp1⟩ := below_f hb p h 7 hp (by omega)
  obtain ⟨t, rfl⟩ := Int.eq_ofNat_of_zero_le hx1.1
  have HL1 : ∀ (d a : Nat), a + d = t + 1 → Ev (fun k => spec_MakeSize.l1 k (a : Int) (d : Int)) ((t + 1 : Nat) : Int) := by
    intro d
    induction d with
    | zero =>
      intro a ha
      refine Ev.step (f := fun _ => some ((t + 1 : Nat) : Int)) (fun k => ?_) (Ev.now _)
      simp only [spec_MakeSize.l1]
      rw [if_neg (by omega), show a = t + 1 by omega]
    | succ d ih =>
      intro a ha
      refine Ev.step (fun k => ?_) (ih (a + 1) (by omega))
      simp only [spec_MakeSize.l1]
      rw [if_pos (by omega), w1 (by omega), w64 (by omega) (by omega), show ((d + 1 : Nat) : Int) - 1 = (d : Int) by omega]
  have HJ : Ev (fun k => spec_MakeSize.j1 k b 40 1 7) ((t + 1 : Nat) : Int) := by
    refine Ev.step (f := fun k => (spec_l31New.f k b 40).bind fun bt236 => ((spec_l01Below.f bt236.1 bt236.2.1 bt236.2.2 7).bind fun bt240 => (spec_MakeSize.l1 k 1 bt240.1))) (fun k => by simp only [spec_MakeSize.j1]) (Ev.bind H ?_)
    simp only [e1, Option.bind_some]
    exact HL1 t 1 (by omega)
  have HL0 : ∀ (d a : Nat), a + d = 7 → 1 ≤ a → Ev (fun k => spec_MakeSize.l0 k b 40 1 7 (a : Int) (a : Int)) ((t + 1 : Nat) : Int) := by
    intro d
    induction d with
    | zero =>
      intro a ha h1
      refine Ev.step (fun k => ?_) HJ
      simp only [spec_MakeSize.l0]
      rw [if_neg (by omega), show a = 7 by omega]
      rfl
    | succ d ih =>
      intro a ha h1
      have IH := ih (a + 1) (by omega) (by omega)
      refine Ev.step (fun k => ?_) IH
      simp only [spec_MakeSize.l0]
      rw [if_pos (by omega), if_pos (by omega), w1 (by omega)]
  exact ⟨((t + 1 : Nat) : Int), by omega, HL0 6 1 (by omega) (by omega)⟩
end

theorem sumw_bound (f : Nat → Int) (M : Int) (n : Nat) (h : ∀ i, i < n → 0 ≤ f i ∧ f i ≤ M) : 0 ≤ sumw f n ∧ sumw f n ≤ n * M := by
  induction n with
  | zero => simp [sumw]
  | succ n ih =>
    have h1 := ih (fun i hi => h i (by omega))
    have h2 := h n (by omega)
    have e : ((n + 1 : Nat) : Int) * M = (n : Int) * M + M := by rw [Int.natCast_add, Int.add_mul]; simp
    rw [e]
    simp only [sumw]
    omega
section
variable {w h : Int} {l : List (List Int)} (hw : 1 ≤ w ∧ w ≤ 8) (hh : 1 ≤ h ∧ h ≤ 8) (few : l.length ≤ 4) (hall : ∀ q ∈ l, WareS q)
include few hall
theorem ok_plate (x y : Int) (hx : 1 ≤ x ∧ x ≤ 16) (hy : 1 ≤ y ∧ y ≤ 16) : plateOk x y l = true := by
  unfold plateOk waresOk
  simp only [Bool.and_eq_true, decide_eq_true_eq, List.all_eq_true]
  refine ⟨hx, hy, by omega, fun q hq => ?_⟩
  obtain ⟨a1, a2, a3, a4⟩ := hall q hq
  simp only [wareOk, Bool.and_eq_true, decide_eq_true_eq]
  refine ⟨a1, ?_⟩
  repeat' constructor
  all_goals omega
theorem ok_trn (x y : Int) (hx : 1 ≤ x ∧ x ≤ 16) (hy : 1 ≤ y ∧ y ≤ 16) : plateOk x y (l.map trn) = true := by
  unfold plateOk waresOk
  simp only [Bool.and_eq_true, decide_eq_true_eq, List.all_eq_true, List.length_map]
  refine ⟨hx, hy, by omega, fun q hq => ?_⟩
  obtain ⟨q0, hq0, rfl⟩ := List.mem_map.1 hq
  obtain ⟨a1, a2, a3, a4⟩ := hall q0 hq0
  have r0 : rd (trn q0) 0 = rd q0 1 := rfl
  have r1 : rd (trn q0) 1 = rd q0 0 := rfl
  have r2 : rd (trn q0) 2 = rd q0 2 := rfl
  simp only [wareOk, Bool.and_eq_true, decide_eq_true_eq, r0, r1, r2]
  refine ⟨rfl, ?_⟩
  repeat' constructor
  all_goals omega
omit few in
theorem row_at (i : Nat) (hi : i < l.length) : WareS (rd_L2 l (i : Int)) := by
  rw [rdL_get l i hi]
  exact hall _ (List.getElem_mem _)
end
theorem FnEdgecuts : laws_FnEdgecuts.Pure := by
  intro l0 hm _ _
  by_cases hbig : (l0.length : Int) > 1048576
  · refine ⟨0, ?_⟩
    unfold laws_FnEdgecuts.f
    rw [if_pos hbig]
  have hb : l0.length ≤ 1048576 := by omega
  obtain ⟨w, h, l, EP, hw, hh, few, hall⟩ := plate_draw hb
  have hmw := mul_small (a := w) (b := h) (by omega) (by omega)
  have hmw64 : w * h ≤ 64 := by
    have := Int.mul_le_mul hw.2 hh.2 (by omega) (by omega)
    omega
  obtain ⟨t, K1, B, hB⟩ := best_ex w h l (ok_plate few hall w h (by omega) (by omega))
  have three : ∀ i : Int, 0 ≤ i → i < (l.length : Int) → (rd_L2 l i).length = 3 := fun i h0 h1 => by
    obtain ⟨j, rfl⟩ := Int.eq_ofNat_of_zero_le h0
    exact (row_at hall j (by omega)).1
  obtain ⟨n, hn⟩ : ∃ n_, tv t w h = n_ := ⟨_, rfl⟩
  have hlo : 0 ≤ n ∧ n ≤ 64000 := by
    have := (B.full w h hw.1 (Int.le_refl _) hh.1 (Int.le_refl _)).lo
    omega
  -- the values of smaller plates
  have EB : ∀ x y : Int, 1 ≤ x → x ≤ w → 1 ≤ y → y ≤ h → Ev (fun k => impl_BestValue.f k x y l) (tv t x y) := fun x y x1 x2 y1 y2 => by
    obtain ⟨t', K, B', hB'⟩ := best_ex x y l (ok_plate few hall x y (by omega) (by omega))
    refine ⟨K, fun k hk => ?_⟩
    show impl_BestValue.f k x y l = _
    rw [(hB' k hk).2, B'.eq B x y x1 (Int.le_refl _) x2 y1 (Int.le_refl _) y2]
  have EBn : Ev (fun k => impl_BestValue.f k w h l) n := by
    have := EB w h hw.1 (Int.le_refl _) hh.1 (Int.le_refl _)
    rw [hn] at this
    exact this
  have ET : Ev (fun k => impl_BestValue.f k h w (l.map trn)) n := by
    obtain ⟨t', K, B', hB'⟩ := best_ex h w (l.map trn) (ok_trn few hall h w (by omega) (by omega))
    refine ⟨K, fun k hk => ?_⟩
    show impl_BestValue.f k h w (l.map trn) = _
    rw [(hB' k hk).2, ← hn]
    exact congrArg some (Int.le_antisymm (trn_ge B B' hw.1 hh.1) (trn_le B B' hw.1 hh.1))
  have EN : Ev (fun k => impl_BestValue.f k w h []) 0 := by
    obtain ⟨t', K, B', hB'⟩ := best_ex w h [] (ok_plate (l := []) (by simp) (fun q hq => by cases hq) w h (by omega) (by omega))
    refine ⟨K, fun k hk => ?_⟩
    show impl_BestValue.f k w h [] = _
    rw [(hB' k hk).2, B'.none hw.1 hh.1]
  -- the plan
  obtain ⟨K2, s, Q, hs⟩ := plan_ex B (by omega) (by omega) (by omega) three _ w h (Nat.le_refl _) hw.1 (Int.le_refl _) hh.1 (Int.le_refl _)
  have hsz : s.size ≤ 600 := by
    have h1 := Q.size
    have h2 := toNat_mul hw.1 hh.1
    omega
  have EPL : Ev (fun k => impl_BestPlan.f k w h l) s := by
    refine ⟨K1 + K2, fun k hk => ?_⟩
    have e : bps.plan k t l w h = some s := hs k (by omega)
    show impl_BestPlan.f k w h l = some s
    unfold impl_BestPlan.f
    rw [plate_impl, ok_plate few hall w h (by omega) (by omega), Option.bind_some, if_pos rfl, (hB k (by omega)).1, Option.bind_some, e]
  have EV : ∀ (P r : ByteArray) (v : Int), P.size ≤ 2000 → (∃ K, ∀ k, K ≤ k → pv.value k l P w h = some (v, true, r)) → Ev (fun k => impl_PlanValue.f k w h l P) (if r.size = 0 then v else -1) := fun P r v hP hR => by
    obtain ⟨K, hK⟩ := hR
    refine ⟨K, fun k hk => ?_⟩
    show impl_PlanValue.f k w h l P = _
    unfold impl_PlanValue.f
    rw [plate_impl, ok_plate few hall w h (by omega) (by omega), Option.bind_some, if_pos rfl, if_pos hP, hK k hk, Option.bind_some]
    by_cases c : r.size = 0
    · have c2 : true = true ∧ r.size = 0 := ⟨rfl, c⟩
      rw [if_pos c]
      show (if true = true ∧ r.size = 0 then some v else some (-1)) = some v
      rw [if_pos c2]
    · have c2 : ¬ (true = true ∧ r.size = 0) := fun q => c q.2
      rw [if_neg c]
      show (if true = true ∧ r.size = 0 then some v else some (-1)) = some (-1)
      rw [if_neg c2]
  have EV1 : Ev (fun k => impl_PlanValue.f k w h l s) n := by
    have he : s ++ (⟨#[]⟩ : ByteArray) = s := bytes_inj (by rw [ba_list]; simp)
    have := EV s ⟨#[]⟩ n (by omega) (by
      obtain ⟨K, hK⟩ := Q.read ⟨#[]⟩
      rw [he, hn] at hK
      exact ⟨K, hK⟩)
    rw [if_pos (show (⟨#[]⟩ : ByteArray).size = 0 from rfl)] at this
    exact this
  have hsd : (s ++ (⟨#[46]⟩ : ByteArray)).size = s.size + 1 := by rw [ByteArray.size_append]; rfl
  have EV2 : Ev (fun k => impl_PlanValue.f k w h l (s ++ (⟨#[46]⟩ : ByteArray))) (-1) := by
    have := EV (s ++ (⟨#[46]⟩ : ByteArray)) ⟨#[46]⟩ n (by omega) (by
      obtain ⟨K, hK⟩ := Q.read ⟨#[46]⟩
      rw [hn] at hK
      exact ⟨K, hK⟩)
    rw [if_neg (by decide)] at this
    exact this
  have EV3 : Ev (fun k => impl_PlanValue.f k w h l ⟨#[46]⟩) 0 := by
    have := EV ⟨#[46]⟩ ⟨#[]⟩ 0 (by decide) ⟨1, fun k hk => by
      obtain ⟨g1, g2, g3⟩ := head_at (x := (⟨#[46]⟩ : ByteArray)) (y := ⟨#[]⟩) (c := 46) rfl
      rw [show k = (k - 1) + 1 by omega]
      simp only [pv.value]
      rw [if_neg (by omega), g2, if_pos (by decide), g3]⟩
    rw [if_pos (show (⟨#[]⟩ : ByteArray).size = 0 from rfl)] at this
    exact this
  -- the bound by the area
  obtain ⟨S, K3, g, hS, hA⟩ := area_ex w h l (ok_plate few hall w h (by omega) (by omega))
  have hge : n ≤ rd S (w * h) := by
    rw [← hn]
    refine area_ge B hw.1 hh.1 (fun p hp => ?_) g hS
    obtain ⟨a1, a2, a3, a4⟩ := hall p hp
    exact ⟨a1, by omega, by omega, by omega⟩
  have EA : Ev (fun k => impl_AreaBound.f k w h l) (rd S (w * h)) := ⟨K3, hA⟩
  -- the letters
  have hok : waresOk l = true := by
    have := ok_plate few hall w h (by omega) (by omega)
    simp only [plateOk, Bool.and_eq_true] at this
    exact this.2.2
  have EC : Ev (fun k => impl_WareCounts.f k l s) (cnts s.data.toList l.length) := by
    refine ⟨20, fun k hk => ?_⟩
    show impl_WareCounts.f k l s = _
    unfold impl_WareCounts.f
    rw [wares_impl, Option.bind_some, hok, if_pos rfl]
    obtain ⟨k, rfl⟩ := succ_of (show 0 < k by omega)
    simp only [impl_WareCounts.j0]
    rw [decide_eq_false (by omega), if_neg (by decide)]
    exact impl_cnts_l l.length (by omega) s l.length k 0 (by omega) (by omega) (by omega)
  have hcut := impl_cuts s (by omega)
  have hcuts := Q.cuts
  obtain ⟨q, hq⟩ : ∃ q_ : Nat, s.data.toList.count 118 + s.data.toList.count 104 = q_ := ⟨_, rfl⟩
  rw [hq] at hcut hcuts
  -- the law, from its end
  have E5 : Ev (fun k => laws_FnEdgecuts.j5 k w h l false) true := by
    refine Ev.step (f := fun k => (impl_PlanValue.f k w h l ⟨#[46]⟩).bind fun t244 => (if t244 = 0 then ((impl_BestValue.f k w h ([] : List (List Int))).bind fun t245 => (some (t245 == 0))) else (some false))) (fun k => ?_) (Ev.bind EV3 (Ev.congr (fun k => if_pos rfl) (Ev.bind EN (Ev.now _))))
    simp only [laws_FnEdgecuts.j5]
    rw [if_neg (by decide)]
  obtain ⟨kk, hkk, EK⟩ := make_size17 hb
  have hsum : ∀ x y : Int, 0 ≤ x → 0 ≤ y → x + y ≤ n → wrap64 (x + y) = x + y := fun x y h1 h2 h3 => w64 (by omega) (by omega)
  have E4 : Ev (fun k => laws_FnEdgecuts.j4 k w h l n kk false) true := by
    have H2 : Ev (fun k => if kk < h then ((impl_BestValue.f k w kk l).bind fun t240 => ((impl_BestValue.f k w (wrap64 (h - kk)) l).bind fun t241 => (laws_FnEdgecuts.j5 k w h l (decide ((wrap64 (t240 + t241)) > n))))) else (laws_FnEdgecuts.j5 k w h l false)) true := by
      by_cases c : kk < h
      · have e := (B.full w h hw.1 (Int.le_refl _) hh.1 (Int.le_refl _)).hc kk hkk.1 c c
        rw [hn] at e
        have l1 := (B.full w kk hw.1 (Int.le_refl _) hkk.1 (by omega)).lo.1
        have l2 := (B.full w (h - kk) hw.1 (Int.le_refl _) (by omega) (by omega)).lo.1
        have e2 := hsum _ _ l1 l2 e
        refine Ev.congr (fun k => if_pos c) (Ev.bind (EB w kk hw.1 (Int.le_refl _) hkk.1 (by omega)) ?_)
        rw [w64 (x := h - kk) (by omega) (by omega)]
        refine Ev.bind (EB w (h - kk) hw.1 (Int.le_refl _) (by omega) (by omega)) ?_
        rw [e2, decide_eq_false (by omega)]
        exact E5
      · exact Ev.congr (fun k => if_neg c) E5
    by_cases c : kk < w
    · have e := (B.full w h hw.1 (Int.le_refl _) hh.1 (Int.le_refl _)).vc kk hkk.1 c c
      rw [hn] at e
      have l1 := (B.full kk h hkk.1 (by omega) hh.1 (Int.le_refl _)).lo.1
      have l2 := (B.full (w - kk) h (by omega) (by omega) hh.1 (Int.le_refl _)).lo.1
      have e2 := hsum _ _ l1 l2 e
      refine Ev.step (f := fun k => (impl_BestValue.f k kk h l).bind fun t238 => ((impl_BestValue.f k (wrap64 (w - kk)) h l).bind fun t239 => (if (wrap64 (t238 + t239)) > n then (laws_FnEdgecuts.j5 k w h l true) else (if kk < h then ((impl_BestValue.f k w kk l).bind fun t240 => ((impl_BestValue.f k w (wrap64 (h - kk)) l).bind fun t241 => (laws_FnEdgecuts.j5 k w h l (decide ((wrap64 (t240 + t241)) > n))))) else (laws_FnEdgecuts.j5 k w h l false))))) (fun k => ?_) (Ev.bind (EB kk h hkk.1 (by omega) hh.1 (Int.le_refl _)) ?_)
      · simp only [laws_FnEdgecuts.j4]
        rw [if_neg (by decide), if_pos c]
      · rw [w64 (x := w - kk) (by omega) (by omega)]
        refine Ev.bind (EB (w - kk) h (by omega) (by omega) hh.1 (Int.le_refl _)) ?_
        rw [e2]
        exact Ev.congr (fun k => if_neg (by omega)) H2
    · refine Ev.step (fun k => ?_) H2
      simp only [laws_FnEdgecuts.j4]
      rw [if_neg (by decide), if_neg c]
  have m1 : wrap64 (2 * w) = 2 * w := w64 (by omega) (by omega)
  have hm2 : 2 * w * h = 2 * (w * h) := Int.mul_assoc 2 w h
  have m2 : wrap64 (2 * w * h) = 2 * (w * h) := by rw [hm2]; exact w64 (by omega) (by omega)
  have E1 : ∀ d i : Nat, l.length - i = d → i ≤ l.length → Ev (fun k => laws_FnEdgecuts.l1 k l0 w h l n s ((l.take i).map trn) (l.length : Int) (i : Int)) true := by
    intro d
    induction d with
    | zero =>
      intro i hd hi
      have hil : i = l.length := by omega
      subst hil
      rw [List.take_length]
      refine Ev.step (f := fun k => (spec_MakeSize.f k l0 40 1 7).bind fun t234 => ((impl_BestValue.f k h w (l.map trn)).bind fun t235 => (if t235 = n then ((impl_CountCutsOf.f s).bind fun t236 => (if t236 < 0 then (laws_FnEdgecuts.j4 k w h l n t234 true) else ((impl_CountCutsOf.f s).bind fun t237 => (laws_FnEdgecuts.j4 k w h l n t234 (decide (t237 > (wrap64 ((wrap64 (2 * w)) * h)))))))) else (laws_FnEdgecuts.j4 k w h l n t234 true)))) (fun k => ?_) (Ev.bind EK (Ev.bind ET ?_))
      · simp only [laws_FnEdgecuts.l1]
        rw [if_neg (by omega)]
      · simp only [hcut, Option.bind_some, if_true, m1, m2]
        refine Ev.congr (fun k => if_neg (by omega)) ?_
        rw [decide_eq_false (by omega)]
        exact E4
    | succ d ih =>
      intro i hd hi
      have hlt : i < l.length := by omega
      have h3 := three i (by omega) (by omega)
      refine Ev.step (fun k => ?_) (ih (i + 1) (by omega) (by omega))
      simp only [laws_FnEdgecuts.l1]
      have eT : (l.take (i + 1)).map trn = (l.take i).map trn ++ [[rd (rd_L2 l (i : Int)) 1, rd (rd_L2 l (i : Int)) 0, rd (rd_L2 l (i : Int)) 2]] := by
        rw [List.take_add_one, List.getElem?_eq_getElem hlt, List.map_append, rdL_get l i hlt]
        rfl
      have hTl : ((l.take i).map trn).length ≤ 4 := by rw [List.length_map, List.length_take]; omega
      rw [if_pos (by omega), if_pos (by omega), if_pos (by omega), if_pos (by omega), if_pos (by omega), if_pos (by omega), if_pos (by omega), eT, w1 (show i ≤ 140737488355328 by omega)]
  have E2 : Ev (fun k => laws_FnEdgecuts.j2 k l0 w h l n s false) true := by
    refine Ev.step (fun k => ?_) (E1 l.length 0 (by omega) (by omega))
    simp only [laws_FnEdgecuts.j2]
    rw [if_neg (by decide)]
    rfl
  have hcl : ∀ i, cnt s.data.toList i ≤ 600 := fun i => by
    have h1 : cnt s.data.toList i ≤ s.data.toList.length := List.count_le_length
    rw [len_data] at h1
    omega
  have fv : ∀ i, i < l.length → 0 ≤ ((cnt s.data.toList i : Nat) : Int) * rd (rd_L2 l (i : Int)) 2 ∧ ((cnt s.data.toList i : Nat) : Int) * rd (rd_L2 l (i : Int)) 2 ≤ 60000 := fun i hi => by
    obtain ⟨a1, a2, a3, a4⟩ := row_at hall i hi
    have := hcl i
    have z1 := Int.mul_nonneg (show 0 ≤ ((cnt s.data.toList i : Nat) : Int) by omega) a4.1
    have z2 := Int.mul_le_mul (show ((cnt s.data.toList i : Nat) : Int) ≤ 600 by omega) a4.2 (by omega) (by omega)
    omega
  have fa0 : ∀ i, i < l.length → 0 ≤ ((cnt s.data.toList i : Nat) : Int) * rd (rd_L2 l (i : Int)) 0 ∧ ((cnt s.data.toList i : Nat) : Int) * rd (rd_L2 l (i : Int)) 0 ≤ 3000 := fun i hi => by
    obtain ⟨a1, a2, a3, a4⟩ := row_at hall i hi
    have := hcl i
    have z1 := Int.mul_nonneg (show 0 ≤ ((cnt s.data.toList i : Nat) : Int) by omega) (show 0 ≤ rd (rd_L2 l (i : Int)) 0 by omega)
    have z2 := Int.mul_le_mul (show ((cnt s.data.toList i : Nat) : Int) ≤ 600 by omega) a2.2 (by omega) (by omega)
    omega
  have fa : ∀ i, i < l.length → 0 ≤ ((cnt s.data.toList i : Nat) : Int) * (rd (rd_L2 l (i : Int)) 0 * rd (rd_L2 l (i : Int)) 1) ∧ ((cnt s.data.toList i : Nat) : Int) * (rd (rd_L2 l (i : Int)) 0 * rd (rd_L2 l (i : Int)) 1) ≤ 15000 := fun i hi => by
    obtain ⟨a1, a2, a3, a4⟩ := row_at hall i hi
    have z := fa0 i hi
    rw [← Int.mul_assoc]
    have z1 := Int.mul_nonneg z.1 (show 0 ≤ rd (rd_L2 l (i : Int)) 1 by omega)
    have z2 := Int.mul_le_mul z.2 a3.2 (by omega) (by omega)
    omega
  have E0 : ∀ d i : Nat, l.length - i = d → i ≤ l.length → Ev (fun k => laws_FnEdgecuts.l0 k l0 w h l n s (cnts s.data.toList l.length) (sumw (fun i => ((cnt s.data.toList i : Nat) : Int) * rd (rd_L2 l (i : Int)) 2) i) (sumw (fun i => ((cnt s.data.toList i : Nat) : Int) * (rd (rd_L2 l (i : Int)) 0 * rd (rd_L2 l (i : Int)) 1)) i) (l.length : Int) (i : Int)) true := by
    intro d
    induction d with
    | zero =>
      intro i hd hi
      have hil : i = l.length := by omega
      subst hil
      refine Ev.step (fun k => ?_) E2
      have qa := Q.area
      simp only [laws_FnEdgecuts.l0]
      rw [if_neg (by omega), Q.val, hn, if_pos rfl, w64 (x := w * h) (by omega) (by omega), if_neg (by omega), cnts_len, show ((l.length : Int) != (l.length : Int)) = false by simp]
    | succ d ih =>
      intro i hd hi
      have hlt : i < l.length := by omega
      have h3 := three i (by omega) (by omega)
      have bv := sumw_bound (fun i => ((cnt s.data.toList i : Nat) : Int) * rd (rd_L2 l (i : Int)) 2) 60000 i (fun j hj => fv j (by omega))
      have ba := sumw_bound (fun i => ((cnt s.data.toList i : Nat) : Int) * (rd (rd_L2 l (i : Int)) 0 * rd (rd_L2 l (i : Int)) 1)) 15000 i (fun j hj => fa j (by omega))
      have v1 := fv i hlt
      have a1 := fa i hlt
      have a0 := fa0 i hlt
      have hrow := row_at hall i hlt
      have hfit : rd (rd_L2 l (i : Int)) 0 ≤ w → rd (rd_L2 l (i : Int)) 1 ≤ h → rd (rd_L2 l (i : Int)) 2 ≤ n := fun q1 q2 => by
        have := B.fits i hlt hrow.2.1.1 q1 hrow.2.2.1.1 q2
        rw [hn] at this
        exact this
      refine Ev.step (fun k => ?_) (ih (i + 1) (by omega) (by omega))
      simp only [laws_FnEdgecuts.l0, sumw, cnts_len, cnts_get s.data.toList l.length i hlt, h3]
      rw [if_pos (by omega), if_pos (by omega), if_pos (by omega), if_neg (by omega), if_pos (by omega), if_pos (by decide), if_pos (by decide), if_pos (by decide)]
      have x1 : wrap64 (((cnt s.data.toList i : Nat) : Int) * rd (rd_L2 l (i : Int)) 2) = ((cnt s.data.toList i : Nat) : Int) * rd (rd_L2 l (i : Int)) 2 := w64 (by omega) (by omega)
      have x2 : wrap64 (((cnt s.data.toList i : Nat) : Int) * rd (rd_L2 l (i : Int)) 0) = ((cnt s.data.toList i : Nat) : Int) * rd (rd_L2 l (i : Int)) 0 := w64 (by omega) (by omega)
      have x3 : wrap64 (((cnt s.data.toList i : Nat) : Int) * rd (rd_L2 l (i : Int)) 0 * rd (rd_L2 l (i : Int)) 1) = ((cnt s.data.toList i : Nat) : Int) * (rd (rd_L2 l (i : Int)) 0 * rd (rd_L2 l (i : Int)) 1) := by
        rw [Int.mul_assoc]
        exact w64 (by omega) (by omega)
      rw [x1, x2, x3, w64 (by omega) (by omega), w64 (by omega) (by omega), w1 (show i ≤ 140737488355328 by omega)]
      by_cases c1 : rd (rd_L2 l (i : Int)) 0 ≤ w
      · rw [if_pos c1]
        by_cases c2 : rd (rd_L2 l (i : Int)) 1 ≤ h
        · have := hfit c1 c2
          rw [if_pos c2, if_neg (by omega)]
        · rw [if_neg c2]
      · rw [if_neg c1]
  have EJ0 : Ev (fun k => laws_FnEdgecuts.j0 k l0 w h l n s false) true := by
    refine Ev.step (f := fun k => (impl_WareCounts.f k l s).bind fun t209 => (laws_FnEdgecuts.l0 k l0 w h l n s t209 0 0 (l.length : Int) 0)) (fun k => ?_) (Ev.bind EC (E0 l.length 0 (by omega) (by omega)))
    simp only [laws_FnEdgecuts.j0]
    rw [if_neg (by decide)]
  have hdot : ((s.toList == ([46] : List UInt8)) != (n == 0)) = false := by
    rw [ByteArray.toList_eq]
    have hd := Q.dot
    rw [hn] at hd
    by_cases c : n = 0
    · rw [hd.2 c, c]
      rfl
    · have c2 : s.data.toList ≠ [46] := fun e => c (hd.1 e)
      rw [beq_eq_false_iff_ne.mpr c2, beq_eq_false_iff_ne.mpr c]
      rfl
  have hne : ¬ s.toList = ([] : List UInt8) := by
    rw [ByteArray.toList_eq]
    exact Q.pos
  have EF : Ev (fun k => laws_FnEdgecuts.f k l0) true := by
    unfold laws_FnEdgecuts.f
    simp only [if_neg hbig]
    refine Ev.bind EP (Ev.bind EBn (Ev.bind EPL ?_))
    refine Ev.congr (f := fun k => (impl_PlanValue.f k w h l s).bind fun t206 => (if t206 = n then ((impl_AreaBound.f k w h l).bind fun t207 => (if t207 < n then (laws_FnEdgecuts.j0 k l0 w h l n s true) else ((impl_PlanValue.f k w h l (s ++ (⟨#[46]⟩ : ByteArray))).bind fun t208 => (laws_FnEdgecuts.j0 k l0 w h l n s (t208 != (-1)))))) else (laws_FnEdgecuts.j0 k l0 w h l n s true))) (fun k => ?_) (Ev.bind EV1 (Ev.congr (fun k => if_pos rfl) (Ev.bind EA (Ev.congr (fun k => if_neg (by omega)) (Ev.bind EV2 EJ0)))))
    rw [wares_impl, Option.bind_some, hok, if_pos rfl, if_neg (by omega), if_neg hne]
    simp only [hdot, Bool.false_eq_true, if_false]
    rw [if_pos (by omega)]
  obtain ⟨K, hK⟩ := EF
  exact ⟨K, hK K (Nat.le_refl _)⟩

end Go.Proofs.YthjiccclpalobaaDoor.Pure
